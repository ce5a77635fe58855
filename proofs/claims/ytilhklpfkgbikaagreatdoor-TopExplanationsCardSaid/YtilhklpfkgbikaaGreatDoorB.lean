import Derived.Test.YtilhklpfkgbikaaGreatDoorA
set_option linter.all false
namespace Go.Proofs.YtilhklpfkgbikaaGreatDoor
open Go.RowKit Go.Proofs.Tryz
set_option maxRecDepth 100000
set_option maxHeartbeats 16000000
def Em(y:Int):Bool:=y.tmod 4==0&&(y.tmod 100 !=0||y.tmod 400==0)
def amg(y:Int)(h:0<=y):Em y=(y% 4==0&&(y% 100 !=0||y% 400==0)):=by
 unfold Em;rw[Int.tmod_eq_emod_of_nonneg h,Int.tmod_eq_emod_of_nonneg h,Int.tmod_eq_emod_of_nonneg h]
def ve(y:Int):Int:=if Em y then 1 else 0
def amh(y:Int)(h:0<=y):(ve y=1/\y% 4=0/\(y% 100≠0\/y% 400=0))\/(ve y=0/\¬(y% 4=0/\(y% 100≠0\/y% 400=0))):=by
 unfold ve;rw[amg y h];by_cases aq:y% 4=0/\(y% 100≠0\/y% 400=0)
 .left;refine⟨?_,aq⟩;rw[if_pos];simpa using aq
 .right;refine⟨?_,aq⟩;rw[if_neg];simpa using aq
def Ev:List Int:=[31,28,31,30,31,30,31,31,30,31,30,31]
def l1(y m:Int):Int:=if m<1\/12<m then 0 else if m=2/\Em y=true then 29 else Ev[(m-1).toNat]?.getD 0
def amL{m:Int}(ab:1<=m)(ad:m<=12):m=1\/m=2\/m=3\/m=4\/m=5\/m=6\/m=7\/m=8\/m=9\/m=10\/m=11\/m=12:=by omega
def VE{y m:Int}(h:m<1\/12<m):l1 y m=0:=by rw[l1,if_pos h]
def VC(y:Int):l1 y 2=28+ve y:=by
 unfold l1 ve
 cases av:Em y<;>simp[Ev]
def VD{y m:Int}(ab:1<=m)(ad:m<=12)(ao:m≠2):l1 y m=Ev[(m-1).toNat]?.getD 0:=by
 rw[l1,if_neg (by omega),if_neg (by omega)]
def VB(y m:Int)(ab:1<=m)(ad:m<=12):28<=l1 y m/\l1 y m<=31:=by
 by_cases ao:m=2
 .subst ao;rw[VC];unfold ve;split<;>omega
 .rw[VD ab ad ao];rcases amL ab ad with rfl|rfl|rfl|rfl|rfl|rfl|rfl|rfl|rfl|rfl|rfl|rfl<;>first|decide|exact absurd rfl ao
def LU(y m:Int):0<=l1 y m/\l1 y m<=31:=by
 by_cases h:m<1\/12<m
 .rw[VE h];omega
 .have:=VB y m (by omega) (by omega);omega
def iy(y:Int):Nat->Int
 |0=>0
 |k+1=>iy y k+l1 y (k+1)
def Vw(y:Int)(k:Nat)(ai:k<=12):0<=iy y k/\iy y k<=31*k:=by
 induction k with
 |zero=>simp[iy]
 |succ k bO=>
  have:=bO (by omega);have:=LU y (k+1);rw[iy];omega
def Vx(y : Int)(i j : Nat)(h : i <= j): iy y i <= iy y j := by
  induction j with
  | zero => have : i = 0 := by omega
            subst this; exact Int.le_refl _
  | succ j bO =>
    by_cases e : i = j + 1
    · subst e; exact Int.le_refl _
    · have := bO (by omega)
      have := LU y (j + 1);rw [iy]; omega
def Vv(y:Int):iy y 12=365+ve y:=by
 have h:∀m:Int,1<=m->m<=12->m≠2->l1 y m=Ev[(m-1).toNat]?.getD 0:=λm a b c=>VD a b c;have ad:=VC y;simp only[iy];rw[show ((0:Nat):Int)+1=1 from rfl,show ((1:Nat):Int)+1=2 from rfl,show ((2:Nat):Int)+1=3 from rfl,show ((3:Nat):Int)+1=4 from rfl,
  show ((4:Nat):Int)+1=5 from rfl,show ((5:Nat):Int)+1=6 from rfl,show ((6:Nat):Int)+1=7 from rfl,show ((7:Nat):Int)+1=8 from rfl,
  show ((8:Nat):Int)+1=9 from rfl,show ((9:Nat):Int)+1=10 from rfl,show ((10:Nat):Int)+1=11 from rfl,show ((11:Nat):Int)+1=12 from rfl,
  h 1 (by omega) (by omega) (by omega),ad,h 3 (by omega) (by omega) (by omega),h 4 (by omega) (by omega) (by omega),h 5 (by omega) (by omega) (by omega),h 6 (by omega) (by omega) (by omega),
  h 7 (by omega) (by omega) (by omega),h 8 (by omega) (by omega) (by omega),h 9 (by omega) (by omega) (by omega),h 10 (by omega) (by omega) (by omega),h 11 (by omega) (by omega) (by omega),h 12 (by omega) (by omega) (by omega)]
 simp[Ev];omega
def GN(y:Int):Int:=y/4-y/100+y/400
def iZ(y:Int):Int:=(y-1900)*365+GN (y-1)-GN 1899
def afB:iZ 1900=0:=by decide
def J7(y:Int)(h:0<=y):iZ (y+1)=iZ y+365+ve y:=by
 unfold iZ GN;rcases amh y h with⟨e,ab,ad⟩|⟨e,ab⟩<;>rw[e]<;>omega
def ZK:iZ 2200=109573:=by decide
def Yg(y:Int):0<=ve y/\ve y<=1:=by unfold ve;split<;>omega
def Td(y:Int)(ab:1900<=y)(ad:y<=2200):365*(y-1900)<=iZ y/\iZ y<=366*(y-1900):=by
 obtain⟨k,rfl⟩:∃k:Nat,y=1900+k:=⟨(y-1900).toNat,by omega⟩;clear ab;induction k with
 |zero=>simp[afB]
 |succ k bO=>
  have:=bO (by omega);have e:=J7 (1900+k) (by omega);have:=Yg (1900+k);rw[show (1900:Int)+((k+1:Nat):Int)=1900+k+1 from by omega,e];omega
def Te(a b:Int)(ab:1900<=a)(ad:a<b):iZ a+365<=iZ b:=by
 obtain⟨k,rfl⟩:∃k:Nat,b=a+1+k:=⟨(b-a-1).toNat,by omega⟩;clear ad;induction k with
 |zero=>
  have e:=J7 a (by omega);have:=Yg a;rw[show a+1+((0:Nat):Int)=a+1 from by omega,e];omega
 |succ k bO=>
  have e:=J7 (a+1+k) (by omega);have:=Yg (a+1+k);rw[show a+1+((k+1:Nat):Int)=a+1+k+1 from by omega,e];omega
def sw(y m d:Int):Bool:=decide (1900<=y)&&(decide (y<=2199)&&(decide (1<=m)&&(decide (m<=12)&&(decide (1<=d)&&decide (d<=l1 y m)))))
def A6{y m d:Int}:sw y m d=true↔1900<=y/\y<=2199/\1<=m/\m<=12/\1<=d/\d<=l1 y m:=by simp[sw]
def qA(y m d:Int):Int:=iZ y+iy y (m-1).toNat+d-1
def Am(y m d:Int):Int×Int:=if sw y m d then (qA y m d,0)else (0,3)
def Jv{y m d:Int}(h:sw y m d=true):iZ y<=qA y m d/\qA y m d<iZ (y+1):=by
 obtain⟨ab,ad,ao,aR,bw,eL⟩:=A6.1 h;have a:=Vw y (m-1).toNat (by omega);have b:=Vx y ((m-1).toNat+1) 12 (by omega);rw[iy,show (((m-1).toNat:Nat):Int)+1=m from by omega,Vv]at b;rw[J7 y (by omega)];unfold qA;omega
def aiM{y m d:Int}(h:sw y m d=true):0<=qA y m d/\qA y m d<=109572:=by
 have ec:=A6.1 h;have a:=Jv h;have b:=Td y (by omega) (by omega);have c:iZ (y+1)<=iZ 2200:=by
  by_cases e:y+1=2200
  .rw[e];exact Int.le_refl _
  .have:=Te (y+1) 2200 (by omega) (by omega);omega
 rw[ZK]at c;omega
def aiN{y m d x0 jY fp:Int}(h:sw y m d=true)(ec:sw x0 jY fp=true)(e:qA y m d=qA x0 jY fp):y=x0/\m=jY/\d=fp:=by
 have i1:=Jv h;have i2:=Jv ec;obtain⟨eS,a2,a3,a4,a5,Im⟩:=A6.1 h;obtain⟨c9,bW,j8,ee,fm,gU⟩:=A6.1 ec;have bZ:y=x0:=by
  rcases Int.lt_trichotomy y x0 with av|he|al
  .by_cases a_:y+1=x0
   .subst a_;omega
   .have:=Te (y+1) x0 (by omega) (by omega);omega
  .exact he
  .by_cases a_:x0+1=y
   .subst a_;omega
   .have:=Te (x0+1) y (by omega) (by omega);omega
 subst bZ;have hm:m=jY:=by
  unfold qA at e;have aY:iy y ((m-1).toNat+1)=iy y (m-1).toNat+l1 y m:=by rw[iy,show (((m-1).toNat:Nat):Int)+1=m from by omega]
  have a':iy y ((jY- 1).toNat+1)=iy y (jY- 1).toNat+l1 y jY:=by rw[iy,show (((jY- 1).toNat:Nat):Int)+1=jY from by omega]
  rcases Int.lt_trichotomy m jY with av|he|al
  .have:=Vx y ((m-1).toNat+1) (jY- 1).toNat (by omega);omega
  .exact he
  .have:=Vx y ((jY- 1).toNat+1) (m-1).toNat (by omega);omega
 subst hm;unfold qA at e;exact⟨rfl,rfl,by omega⟩
noncomputable def eN(n:Int):Int×Int×Int:=
 open Classical in if h:∃p:Int×Int×Int,sw p.1 p.2.1 p.2.2=true/\qA p.1 p.2.1 p.2.2=n then Classical.choose h else (0,0,0)
def ae9{n y m d:Int}(h:sw y m d=true)(e:qA y m d=n):eN n=(y,m,d):=by
 unfold eN;have aj:∃p:Int×Int×Int,sw p.1 p.2.1 p.2.2=true/\qA p.1 p.2.1 p.2.2=n:=⟨(y,m,d),h,e⟩;rw[dif_pos aj];have aq:=Classical.choose_spec aj;obtain⟨aQ,a_,cv⟩:=aiN aq.1 h (aq.2.trans e.symm);exact Prod.ext aQ (Prod.ext a_ cv)
def apK{n:Int}(h:n<0\/109572<n):eN n=(0,0,0):=by
 unfold eN;rw[dif_neg];rintro⟨p,hp,e⟩;have:=aiM hp;omega
def aqT(n:Int)(ar:0<=n)(ab:n<=109572):∃y,1900<=y/\y<=2199/\iZ y<=n/\n<iZ (y+1):=by
 have key:∀k:Nat,k<=300->n<iZ (1900+k)->∃y,1900<=y/\y<=2199/\iZ y<=n/\n<iZ (y+1):=by
  intro k;induction k with
  |zero=>intro _ h;rw[show (1900:Int)+((0:Nat):Int)=1900 from rfl,afB]at h;omega
  |succ k bO=>
   intro ai h;rw[show (1900:Int)+((k+1:Nat):Int)=1900+k+1 from by omega]at h;rcases Int.lt_or_le n (iZ (1900+k))with av|av
   .exact bO (by omega) av
   .exact⟨1900+k,by omega,by omega,av,h⟩
 refine key 300 (Nat.le_refl _) ?_;rw[show (1900:Int)+((300:Nat):Int)=2200 from rfl,ZK];omega
def amM(y r:Int)(ar:0<=r)(ab:r<365+ve y):∃k:Nat,k<12/\iy y k<=r/\r<iy y (k+1):=by
 have key:∀k:Nat,k<=12->r<iy y k->∃k:Nat,k<12/\iy y k<=r/\r<iy y (k+1):=by
  intro k;induction k with
  |zero=>intro _ h;simp[iy]at h;omega
  |succ k bO=>
   intro ai h;rcases Int.lt_or_le r (iy y k)with av|av
   .exact bO (by omega) av
   .exact⟨k,by omega,av,h⟩
 exact key 12 (Nat.le_refl _) (by rw[Vv];exact ab)
def Zp(n:Int)(ar:0<=n)(ab:n<=109572):sw (eN n).1 (eN n).2.1 (eN n).2.2=true/\qA (eN n).1 (eN n).2.1 (eN n).2.2=n:=by
 obtain⟨y,dr,eV,jP,pF⟩:=aqT n ar ab;rw[J7 y (by omega)]at pF;obtain⟨k,au,bt,bF⟩:=amM y (n-iZ y) (by omega) (by omega);rw[iy]at bF;have af:sw y (k+1) (n-iZ y-iy y k+1)=true:=A6.2 ⟨dr,eV,by omega,by omega,by omega,by omega⟩;have he:qA y (k+1) (n-iZ y-iy y k+1)=n:=by
  unfold qA;rw[show ((k:Int)+1-1).toNat=k from by omega];omega
 rw[ae9 af he];exact⟨af,he⟩
def kv(d:Int):Bool:=decide (0<=d)&&decide (d<=109572)
def R0{d:Int}:kv d=true↔0<=d/\d<=109572:=by simp[kv]
def alI{d:Int}:kv d=false↔d<0\/109572<d:=by simp[kv];omega
noncomputable def ln(a n:Int):Int:=((eN a).1-1900)*12+(eN a).2.1-1+n
noncomputable def Lv(a n:Int):Int×Int:=Am (1900+ln a n/12) (ln a n% 12+1) (min (eN a).2.2 (l1 (1900+ln a n/12) (ln a n% 12+1)))
noncomputable def BF(a n:Int):Bool:=kv a&&(decide (-3600<=n)&&(decide (n<=3600)&&(decide (0<=ln a n)&&decide (ln a n<=3599))))
noncomputable def pR(a n:Int):Int×Int:=if BF a n then Lv a n else (0,3)
def PN{a n:Int}:BF a n=true↔kv a=true/\ -3600<=n/\n<=3600/\0<=ln a n/\ln a n<=3599:=by simp[BF]
def U3{a n:Int}(h:BF a n=true):pR a n=Lv a n:=by rw[pR,if_pos h]
def agF{a n:Int}(h:BF a n=false):pR a n=(0,3):=by rw[pR,h];rfl
def ET{a:Int}(h:kv a=true):1900<=(eN a).1/\(eN a).1<=2199/\1<=(eN a).2.1/\(eN a).2.1<=12/\1<=(eN a).2.2/\(eN a).2.2<=l1 (eN a).1 (eN a).2.1:=by
 have ec:=R0.1 h;exact A6.1 (Zp a ec.1 ec.2).1
def aju{y m d:Int}(ab:1900<=y)(ad:y<=2199)(ao:1<=m)(aR:m<=12)(bw:1<=d):sw y m (min d (l1 y m))=true:=by
 have:=VB y m ao aR;exact A6.2 ⟨ab,ad,ao,aR,by omega,by omega⟩
def abS{y m d:Int}(h:sw y m d=true):Am y m d=(qA y m d,0):=by rw[Am,if_pos h]
def ag6{a j:Int}(h:kv a=true)(ar:0<=j)(ab:(eN a).1+j<=2199):
  (pR a (12*j)).2=0/\iZ ((eN a).1+j)<=(pR a (12*j)).1/\(pR a (12*j)).1<iZ ((eN a).1+j+1):=by
 have af:=ET h;have h':BF a (12*j)=true:=PN.2 ⟨h,by omega,by omega,by unfold ln;omega,by unfold ln;omega⟩;have hm:ln a (12*j)=12*((eN a).1+j-1900)+((eN a).2.1-1):=by unfold ln;omega
 have aQ:1900+ln a (12*j)/12=(eN a).1+j:=by omega
 have a_:ln a (12*j)% 12+1=(eN a).2.1:=by omega
 have bV:=aju (y:=(eN a).1+j) (m:=(eN a).2.1) (by omega) ab af.2.2.1 af.2.2.2.1 af.2.2.2.2.1;rw[U3 h',Lv,aQ,a_,abS bV];exact⟨rfl,(Jv bV).1,(Jv bV).2⟩
def ag7{a:Int}(h:kv a=true):pR a 0=(a,0):=by
 have af:=ET h;have ec:=R0.1 h;have aO:=Zp a ec.1 ec.2;have hm:ln a 0=12*((eN a).1-1900)+((eN a).2.1-1):=by unfold ln;omega
 have h':BF a 0=true:=PN.2 ⟨h,by omega,by omega,by omega,by omega⟩;have aQ:1900+ln a 0/12=(eN a).1:=by omega
 have a_:ln a 0% 12+1=(eN a).2.1:=by omega
 rw[U3 h',Lv,aQ,a_,Int.min_eq_left af.2.2.2.2.2,abS aO.1,aO.2]
def afz{a:Int}(h:kv a=true):iZ (eN a).1<=a/\a<iZ ((eN a).1+1):=by
 have ec:=R0.1 h;have aO:=Zp a ec.1 ec.2;have:=Jv aO.1;rw[aO.2]at this;exact this
def afA{a b:Int}(h:kv a=true)(ec:kv b=true)(pg:a<=b):(eN a).1<=(eN b).1:=by
 have ab:=afz h;have ad:=afz ec;have af:=ET ec;have bD:=ET h;rcases Int.lt_or_le (eN b).1 (eN a).1 with av|av
 .exfalso;by_cases e:(eN b).1+1=(eN a).1
  .rw[<-e]at ab;omega
  .have:=Te ((eN b).1+1) (eN a).1 (by omega) (by omega);omega
 .exact av
def EY(a b:Int):Bool:=kv a&&(kv b&&decide (a<=b))
def afy{a b:Int}:EY a b=true↔kv a=true/\kv b=true/\a<=b:=by simp[EY]
noncomputable def C'(a b:Int):Int:=
 if EY a b then (if (pR a (12*((eN b).1-(eN a).1))).1<=b then (eN b).1-(eN a).1 else (eN b).1-(eN a).1-1)else 0
def aqR{a b:Int}(h:EY a b=false):C' a b=0:=by rw[C',h];rfl
def aqS{a b:Int}(h:EY a b=true):
  (C' a b=(eN b).1-(eN a).1/\(pR a (12*((eN b).1-(eN a).1))).1<=b)\/(C' a b=(eN b).1-(eN a).1-1/\b<(pR a (12*((eN b).1-(eN a).1))).1/\(eN a).1<(eN b).1):=by
 obtain⟨ab,ad,ao⟩:=afy.1 h;have bZ:=afA ab ad ao;rw[C',if_pos h];by_cases aq:(pR a (12*((eN b).1-(eN a).1))).1<=b
 .rw[if_pos aq];exact .inl ⟨rfl,aq⟩
 .rw[if_neg aq];refine .inr ⟨rfl,by omega,?_⟩;rcases Int.lt_or_eq_of_le bZ with av|he
  .exact av
  .exfalso;rw[he,Int.sub_self,Int.mul_zero,ag7 ab]at aq;exact aq ao
structure pI where
 aM:ez
 mem:gh
structure nE where
 cZ:J
 cT:J
 e2:J
 aD:J
 n:J
structure lB where
 aM:ez
 dL:J
 eY:J
 cg:J
 bK:J
 rows:List nE
structure mI where
 aM:ez
 k:J
 e:J
structure br where
 aM:ez
 bx:J
 bJ:J
 d_:J
 cZ:J
 cT:J
 g:List cw
 v:List cw
 src:ez
structure cq where
 aM:ez
 ms:J
 ins:List mI
 ds:List mI
 rs:List br
structure cO where
 bs:List pI
 tb:List lB
 sc:List cq
def v0:bC:=⟨0,0,0⟩
structure dT where
 dt:J
 ins:List bC
 ds:List bC
 ms:List (List bC)
 mt:List dh
 tb:List lB
structure gD where
 sc:cw->bC->bC->bC×J
 tO:lB->J->J->J->J×J
def iv(v:bC):Bool:=decide ((v.k=6\/v.e=0)/\((v.k=1/\(v.n=0\/v.n=1))\/(v.k=2/\ -1000000000000<=v.n/\v.n<=1000000000000)\/(v.k=3/\ -1000000000000000<=v.n/\v.n<=1000000000000000)\/
 (v.k=4/\ -1000000000<=v.n/\v.n<=1000000000)\/(v.k=5/\0<=v.n/\v.n<=109572)\/(v.k=6/\0<=v.e/\v.e<8/\0<=v.n/\v.n<16)))
def zw(o:J):Bool:=decide ((1<=o/\o<=8)\/(14<=o/\o<=16)\/o=33\/o=34\/(36<=o/\o<=39))
def xX(x:cw):Bool:=decide (0<=eP x.o/\(x.n=0\/zw x.o=true)/\(14<=x.o->x.o<=16->0<=x.n/\x.n<=5)/\(x.o=34->0<=x.n/\x.n% 8<=5)/\(x.o=6->0<=x.n))
def oi(n:J)(l:aa):Bool:=decide (0<=n/\n<l)
def sX(x:cw)(E:dT):Bool:=
 if x.o=7 then oi x.n E.ins
 else if x.o=8 then oi x.n E.ds&&decide ((E.ds[x.n.toNat]?.getD v0).k≠0)
 else if x.o=33 then oi x.n E.tb
 else if x.o=34 then decide (x.n/8<E.tb.length)
 else if 36<=x.o/\x.o<=39 then oi x.n E.mt
 else true
def N6(a b:bC):Bool:=decide (a.k=b.k/\a.e=b.e)
def nt(k:J):Bool:=decide (k=2\/k=3\/k=4)
def xq(v:bC)(k e:J):Bool:=iv v&&decide (v.k=k/\v.e=e)
def NK(o:J)(t:dh):Bool:=decide (t.e=0/\((o=36/\(t.k=2\/t.k=3))\/(o=39/\(t.k=2\/t.k=3\/t.k=4\/t.k=5))\/(o≠36/\o≠39/\t.k=1)))
def Ol(o k:J):Bool:=decide ((o=10/\(k=2\/k=3\/k=4))\/(o=25/\k=1)\/(o≠10/\o≠25/\k=5))
def yD(o:J)(a b:bC):Bool:=decide (
 if o=11\/o=12 then (a.k=b.k/\a.e=b.e)/\(a.k=2\/a.k=3\/a.k=4)
 else if o=13 then b.k=2/\(a.k=2\/a.k=3)
 else if o=14 then b.k=4/\(a.k=3\/a.k=4)
 else if o=15 then (b.k=2/\(a.k=2\/a.k=3))\/(b.k≠2/\a.k=3/\b.k=3)
 else if o=16 then a.k=3/\b.k=3
 else if o=17\/o=18\/o=21\/o=22 then (a.k=b.k/\a.e=b.e)/\(a.k=2\/a.k=3\/a.k=4\/a.k=5)
 else if o=19\/o=20 then a.k=b.k/\a.e=b.e
 else if o=23\/o=24 then a.k=1/\b.k=1
 else if o=27\/o=28 then a.k=5/\b.k=2
 else a.k=5/\b.k=5)
def vs:lB:=⟨⟨#[]⟩,0,0,0,0,[]⟩
def ix(x:cw)(args:List bC)(E:dT):Bool:=
 if x.o=7 then iv (E.ins[x.n.toNat]?.getD v0)
 else if x.o=8 then iv (E.ds[x.n.toNat]?.getD v0)
 else if x.o=33 then xq (args[0]?.getD v0) (E.tb[x.n.toNat]?.getD vs).dL (E.tb[x.n.toNat]?.getD vs).eY&&(decide (1<=(E.tb[x.n.toNat]?.getD vs).cg)&&decide ((E.tb[x.n.toNat]?.getD vs).cg<=6))
 else if x.o=34 then decide ((args[0]?.getD v0).k=3)&&(decide ((E.tb[(x.n/8).toNat]?.getD vs).dL=3/\(E.tb[(x.n/8).toNat]?.getD vs).eY=0)&&decide ((E.tb[(x.n/8).toNat]?.getD vs).cg=4/\(E.tb[(x.n/8).toNat]?.getD vs).bK=0))
 else if 36<=x.o/\x.o<=39 then NK x.o (E.mt[x.n.toNat]?.getD ⟨0,0⟩)
 else match args with
  |[a]=>Ol x.o a.k
  |[a,b]=>yD x.o a b
  |[a,b,c]=>decide (a.k=1)&&N6 b c
  |_=>true
def rN(b:Bool):bC:=⟨1,0,if b then 1 else 0⟩
def Ai(f t d:J):Bool:=decide (0<=f/\f<=t/\t<=109573/\f<=d/\d<t)
def wB(d k:J)(r:nE):Bool:=Ai r.cZ r.cT d&&decide (r.e2<=k/\k<r.aD)
def mZ(o:J)(q:aa)(t:dh):aa->List (List bC)->bC->bC×J
 |_,[],acc=>(acc,0)
 |i,m::r,acc=>
  if m.length<=q\/(m[q]?.getD v0).k=0 then (v0,6)
  else if xq (m[q]?.getD v0) t.k t.e=false then (v0,8)
  else if o=36 then (if iv {acc with n:=acc.n+(m[q]?.getD v0).n} then mZ o q t (i+1) r {acc with n:=acc.n+(m[q]?.getD v0).n} else (v0,3))
  else if o=37 then mZ o q t (i+1) r {acc with n:=min acc.n (m[q]?.getD v0).n}
  else if o=38 then mZ o q t (i+1) r {acc with n:=max acc.n (m[q]?.getD v0).n}
  else if o=39 then mZ o q t (i+1) r (if i=0\/acc.n<(m[q]?.getD v0).n then m[q]?.getD v0 else acc)
  else mZ o q t (i+1) r acc
def CP(x:cw)(E:dT):bC×J:=
 if x.o=39/\E.ms.length=0 then (v0,6)else mZ x.o x.n.toNat (E.mt[x.n.toNat]?.getD ⟨0,0⟩) 0 E.ms ⟨(E.mt[x.n.toNat]?.getD ⟨0,0⟩).k,(E.mt[x.n.toNat]?.getD ⟨0,0⟩).e,if x.o=37 then 1 else 0⟩
noncomputable def Hb(o:J)(a:bC):bC:=
 if o=10 then⟨a.k,0,-a.n⟩else if o=25 then rN (decide (a.n=0))else if o=31 then⟨2,0,(eN a.n).1⟩else⟨2,0,(eN a.n).2.1⟩
noncomputable def pT(Lf:gD)(x:cw)(a b:bC):bC×J:=
 if x.o=11\/x.o=27 then (⟨a.k,0,a.n+b.n⟩,0)
 else if x.o=12 then (⟨a.k,0,a.n-b.n⟩,0)
 else if 13<=x.o/\x.o<=16 then Lf.sc x a b
 else if x.o=17\/x.o=18 then ((if (x.o=17)=(b.n<a.n)then b else a),0)
 else if x.o=19 then (rN (decide (a.n=b.n)),0)
 else if x.o=20 then (rN (decide (a.n≠b.n)),0)
 else if x.o=21 then (rN (decide (a.n<b.n)),0)
 else if x.o=22 then (rN (decide (a.n<=b.n)),0)
 else if x.o=23 then (rN (decide (a.n=1/\b.n=1)),0)
 else if x.o=24 then (rN (decide (a.n=1\/b.n=1)),0)
 else if x.o=28 then (⟨5,0,(pR a.n b.n).1⟩,(pR a.n b.n).2)
 else if x.o=29 then (⟨2,0,b.n-a.n⟩,0)
 else (⟨2,0,C' a.n b.n⟩,0)
noncomputable def gd(Lf:gD)(x:cw)(args:List bC)(E:dT):bC×J:=
 if 1<=x.o/\x.o<=5 then (⟨x.o,0,x.n⟩,0)
 else if x.o=6 then (⟨6,x.n/16,x.n% 16⟩,0)
 else if x.o=7 then (E.ins[x.n.toNat]?.getD v0,0)
 else if x.o=8 then (E.ds[x.n.toNat]?.getD v0,0)
 else if x.o=9 then (⟨5,0,E.dt⟩,0)
 else if x.o=35 then (⟨2,0,E.ms.length⟩,0)
 else if 36<=x.o/\x.o<=39 then CP x E
 else if x.o=33 then
  (match (E.tb[x.n.toNat]?.getD vs).rows.find? (wB E.dt (args[0]?.getD v0).n)with
  |none=>(v0,6)
  |some r=>(⟨(E.tb[x.n.toNat]?.getD vs).cg,(E.tb[x.n.toNat]?.getD vs).bK,r.n⟩,0))
 else if x.o=34 then (⟨3,0,(Lf.tO (E.tb[(x.n/8).toNat]?.getD vs) E.dt (args[0]?.getD v0).n (x.n% 8)).1⟩,(Lf.tO (E.tb[(x.n/8).toNat]?.getD vs) E.dt (args[0]?.getD v0).n (x.n% 8)).2)
 else match args with
  |[a]=>(Hb x.o a,0)
  |[a,b]=>pT Lf x a b
  |[a,b,c]=>(if a.n=1 then b else c,0)
  |_=>(v0,0)
noncomputable def r6(Lf:gD)(x:cw)(args:List bC)(E:dT):bC×J:=
 if xX x=false\/(args:J)≠eP x.o then (v0,2)
 else if sX x E=false then (v0,6)
 else if args.all iv=false\/ix x args E=false then (v0,8)
 else if (gd Lf x args E).2≠0 then (v0,(gd Lf x args E).2)
 else if iv (gd Lf x args E).1=false then (v0,3)
 else ((gd Lf x args E).1,0)
def tM(f:J->bC×J):aW->List bC->List bC×J
 |[],acc=>(acc,0)
 |i::r,acc=>if (f i).2≠0 then ([],(f i).2)else tM f r (acc++[(f i).1])
def pV(r:bC×J):bC×J:=if r.2≠0 then (v0,r.2)else if r.1.k≠1\/iv r.1=false then (v0,8)else (r.1,0)
def CH(x:cw)(f:aa->bC×J):bC×J:=
 if x.n≠0 then (v0,2)
 else if (pV (f 0)).2≠0 then (v0,(pV (f 0)).2)
 else if x.o=26 then (if (pV (f 0)).1.n=1 then f 1 else f 2)
 else if (x.o=23)=((pV (f 0)).1.n=0)then ((pV (f 0)).1,0)
 else pV (f 1)
noncomputable def hQ(Lf:gD)(E:dT)(e:List cw)(ed:List aa):aa->J->bC×J
 |0,_=>(v0,0)
 |F+1,at_=>
  if (e[at_.toNat]?.getD ⟨0,0⟩).o=23\/(e[at_.toNat]?.getD ⟨0,0⟩).o=24\/(e[at_.toNat]?.getD ⟨0,0⟩).o=26 then
   CH (e[at_.toNat]?.getD ⟨0,0⟩) (λj=>hQ Lf E e ed F ((ti ed (eP (e[at_.toNat]?.getD ⟨0,0⟩).o).toNat (at_-1) [])[j]?.getD 0))
  else if (tM (hQ Lf E e ed F) (ti ed (eP (e[at_.toNat]?.getD ⟨0,0⟩).o).toNat (at_-1) []) []).2≠0 then (v0,(tM (hQ Lf E e ed F) (ti ed (eP (e[at_.toNat]?.getD ⟨0,0⟩).o).toNat (at_-1) []) []).2)
  else r6 Lf (e[at_.toNat]?.getD ⟨0,0⟩) (tM (hQ Lf E e ed F) (ti ed (eP (e[at_.toNat]?.getD ⟨0,0⟩).o).toNat (at_-1) []) []).1 E
noncomputable def hW(Lf:gD)(E:dT)(e:List cw):bC×J:=
 if (c' e).2.2≠0 then (v0,(c' e).2.2)else hQ Lf E e (c' e).1 e (e.length-1)
structure zH(E E':dT)(e:List cw):Prop where
 dt:E.dt=E'.dt
 ins:E.ins=E'.ins
 mt:E.mt=E'.mt
 tb:E.tb=E'.tb
 dl:E.ds.length=E'.ds.length
 py:E.ms.length=E'.ms.length
 ds:∀x∈e,x.o=8->0<=x.n->E.ds[x.n.toNat]?=E'.ds[x.n.toNat]?
 ms:∀x∈e,36<=x.o->x.o<=39->0<=x.n->∀(j:aa)(m jY:List bC),E.ms[j]?=some m->E'.ms[j]?=some jY->m[x.n.toNat]?=jY[x.n.toNat]?
def anv(o:J)(q:aa)(t:dh):∀(l l':List (List bC))(i:aa)(acc:bC),l.length=l'.length->(∀(j:aa)(m jY:List bC),l[j]?=some m->l'[j]?=some jY->m[q]?=jY[q]?)->mZ o q t i l acc=mZ o q t i l' acc:=by
 intro l;induction l with
 |nil=>
  intro l' i acc av _;rw[oC.1 av.symm]
 |cons m r bO=>
  intro l' i acc av h;match l',av with
  |jY::lo,av=>
   have ar:=h 0 m jY rfl rfl;have aC:∀i acc,mZ o q t i r acc=mZ o q t i lo acc:=λi acc=>bO lo i acc (by simpa using av) (λj a fI bD QY=>h (j+1) a fI (by simpa using bD) (by simpa using QY));have az:(m.length<=q)=(jY.length<=q):=by
    rw[<-E1,<-E1,ar]
   unfold mZ;simp only[ar,az,aC]
def zH.apply{Lf:gD}{E E':dT}{e:List cw}(h:zH E E' e){x:cw}(aj:x∈e)(args:List bC):r6 Lf x args E=r6 Lf x args E':=by
 by_cases aH:(x.o=8\/36<=x.o/\x.o<=39)/\¬0<=x.n
 .have aQ:∀l,oi x.n l=false:=λl=>by unfold oi;exact jC (λh=>aH.2 h.1)
  have hex:∀E,sX x E=false:=λE=>by
   unfold sX;rcases aH.1 with eI|eI
   .rw[aw (by omega),aP eI,aQ];rfl
   .rw[aw (by omega),aw (by omega),aw (by omega),aw (by omega),aP eI,aQ]
  unfold r6;rw[hex,hex];simp only[k3]
 have aE:x.o=8->E.ds[x.n.toNat]?=E'.ds[x.n.toNat]?:=λeI=>h.ds x aj eI (OA.1 λaT=>aH ⟨.inl eI,aT⟩);have hex:sX x E=sX x E':=by
  unfold sX;rw[h.ins,h.dl,h.tb,h.mt];by_cases eI:x.o=8
  .rw[aE eI]
  .simp only[eI,sx]
 have ks:ix x args E=ix x args E':=by
  unfold ix;rw[h.ins,h.tb,h.mt];by_cases eI:x.o=8
  .rw[aE eI]
  .simp only[eI,sx]
 have MM:gd Lf x args E=gd Lf x args E':=by
  unfold gd;rw[h.ins,h.tb,h.dt,h.py];by_cases eI:x.o=8
  .rw[aE eI];simp[eI]
  .by_cases hm:36<=x.o/\x.o<=39
   .have aA:CP x E=CP x E':=by
     unfold CP;rw[h.mt,h.py,anv x.o x.n.toNat _ E.ms E'.ms 0 _ h.py (h.ms x aj hm.1 hm.2 (OA.1 λaT=>aH ⟨.inr hm,aT⟩))]
    rw[aA];simp only[eI,sx]
   .simp only[eI,hm,sx]
 unfold r6;rw[hex,ks,MM]
def zH.node{Lf:gD}{E E':dT}{e:List cw}(h:zH E E' e)(ar:∀args,r6 Lf ⟨0,0⟩ args E=r6 Lf ⟨0,0⟩ args E')(ed:List aa):∀(F:aa)(at_:J),hQ Lf E e ed F at_=hQ Lf E' e ed F at_:=by
 intro F;induction F with
 |zero=>intro at_;rfl
 |succ F bO=>
  intro at_;have bV:hQ Lf E e ed F=hQ Lf E' e ed F:=funext bO;have bD:∀args,r6 Lf (e[at_.toNat]?.getD ⟨0,0⟩) args E=r6 Lf (e[at_.toNat]?.getD ⟨0,0⟩) args E':=λargs=>by
   cases al:e[at_.toNat]? with
   |none=>exact ar args
   |some x=>exact h.apply (fe al) args
  unfold hQ;rw[bV,bD]
def zH.eval{Lf:gD}{E E':dT}{e:List cw}(h:zH E E' e):hW Lf E e=hW Lf E' e:=by
 unfold hW;rw[h.node (λargs=> ?_)];unfold r6;rw[aP (.inl (by decide)),aP (.inl (by decide))]
def bz(d dt:J)(r:br):Bool:=decide (r.bx=d)&&Ai r.cZ r.cT dt
def ss(kp:br->Bool):List br->List J->List aa->List J->List aa×List J
 |[],_,l,p=>(l,p)
 |r::rs,gF,l,p=>
  if kp r then ss kp rs (gF++[(l:J)]) (l++[gF.length]) (p++[if 0<=r.bJ/\r.bJ<gF.length then gF[r.bJ.toNat]?.getD 0 else -1])
  else ss kp rs (gF++[if 0<=r.bJ/\r.bJ<gF.length then gF[r.bJ.toNat]?.getD 0 else -1]) l p
def b8(kp:br->Bool)(rs:List br):List aa×List J:=ss kp rs [] [] []
def jz:br:=⟨⟨#[]⟩,0,0,0,0,0,[],[],⟨#[]⟩⟩
noncomputable def fw(Lf:gD)(E:dT)(rs:List br):List aa->List Bool->List Bool×J×J
 |[],acc=>(acc,0,0)
 |i::r,acc=>
  if (rs[i]?.getD jz).g.length=0 then fw Lf E rs r (acc++[true])
  else if (hW Lf E (rs[i]?.getD jz).g).2≠0 then ([],(hW Lf E (rs[i]?.getD jz).g).2,i)
  else fw Lf E rs r (acc++[decide ((hW Lf E (rs[i]?.getD jz).g).1.n=1)])
def o1(par pri:aW):Bool:=decide (par.length=pri.length)&&(decide (par.length<=8)&&(List.range par).all (λi=>decide (-1<=par[i]?.getD 0/\par[i]?.getD 0<i/\0<=pri[i]?.getD 0/\pri[i]?.getD 0<=9)))
def kz(par pri:aW)(apl:List Bool):J:=
 if o1 par pri=true/\apl.length=par.length then xQ par (λi=>pri[i]?.getD 0) (λi=>apl[i]?.getD false) par else -1
def gG(rs:List br)(l:List aa):aW:=l.map λi=>(rs[i]?.getD jz).d_
noncomputable def e0(Lf:gD)(E:dT)(rs:List br)(d:J):J×J×J:=
 if (fw Lf E rs (b8 (bz d E.dt) rs).1 []).2.1≠0 then (0,(fw Lf E rs (b8 (bz d E.dt) rs).1 []).2.1,(fw Lf E rs (b8 (bz d E.dt) rs).1 []).2.2)
 else if kz (b8 (bz d E.dt) rs).2 (gG rs (b8 (bz d E.dt) rs).1) (fw Lf E rs (b8 (bz d E.dt) rs).1 []).1<0 then (kz (b8 (bz d E.dt) rs).2 (gG rs (b8 (bz d E.dt) rs).1) (fw Lf E rs (b8 (bz d E.dt) rs).1 []).1,0,0)
 else (((b8 (bz d E.dt) rs).1[(kz (b8 (bz d E.dt) rs).2 (gG rs (b8 (bz d E.dt) rs).1) (fw Lf E rs (b8 (bz d E.dt) rs).1 []).1).toNat]?.getD 0:aa),0,0)
def hB(kp:br->Bool)(rs:List br)(i:aa):aa:=((rs.take i).filter kp).length
def abq{kp:br->Bool}{rs:List br}{i:aa}{r:br}(h:rs[i]?=some r):hB kp rs (i+1)=hB kp rs i+if kp r then 1 else 0:=by
 obtain⟨aD,rfl⟩:=b2 h;unfold hB;rw[Ho aD,x8,fk,sA,Ke];split<;>rfl
def ait{kp:br->Bool}{rs:List br}{i j:aa}(h:i<=j):hB kp rs i<=hB kp rs j:=by
 unfold hB;obtain⟨k,rfl⟩:=Nat.exists_eq_add_of_le h;rw[List.take_add,x8,fk];omega
def ID{kp:br->Bool}{rs:List br}{i j:aa}{r:br}(h:rs[i]?=some r)(ai:kp r=true)(ay:i<j):hB kp rs i<hB kp rs j:=by
 have ab:=abq (kp:=kp) h;have ad:=ait (kp:=kp) (rs:=rs) (show i+1<=j by omega);rw[aP ai]at ab;omega
def abp{kp:br->Bool}{rs:List br}{i j:aa}{r s:br}(aD:rs[i]?=some r)(aC:kp r=true)(ay:rs[j]?=some s)(aO:kp s=true)(h:hB kp rs i=hB kp rs j):i=j:=by
 rcases Kc i j with aN|he|aN
 .have:=ID aD aC aN;omega
 .exact he
 .have:=ID ay aO aN;omega
inductive r2(kp:br->Bool)(rs:List br):aa->Option aa->Prop
 |self {i:aa} {r:br}:rs[i]?=some r->kp r=true->r2 kp rs i (some i)
 |up {i:aa} {r:br} {o:Option aa}:rs[i]?=some r->kp r=false->0<=r.bJ->r.bJ<i->r2 kp rs r.bJ.toNat o->r2 kp rs i o
 |top {i:aa} {r:br}:rs[i]?=some r->kp r=false->¬(0<=r.bJ/\r.bJ<i)->r2 kp rs i none
def plO(kp:br->Bool)(rs:List br):Option aa->J
 |none=> -1
 |some j=>(hB kp rs j:aa)
def UO(kp:br->Bool)(rs:List br)(i:aa)(r:br)(q:J):Prop:=(0<=r.bJ/\r.bJ<i/\∃o,r2 kp rs r.bJ.toNat o/\q=plO kp rs o)\/(¬(0<=r.bJ/\r.bJ<i)/\q= -1)
structure UT(kp:br->Bool)(rs:List br)(n:aa)(l:List aa)(p:aW):Prop where
 mX:l.length=hB kp rs n
 pl:p.length=hB kp rs n
 at_:∀(i:aa)(r:br),i<n->rs[i]?=some r->kp r=true->l[hB kp rs i]?=some i/\∃q,UO kp rs i r q/\p[hB kp rs i]?=some q
 sq:∀(k i:aa),l[k]?=some i->i<n/\hB kp rs i=k/\∃r,rs[i]?=some r/\kp r=true
def anZ(kp:br->Bool)(rs:List br):∀(k n:aa)(gF:aW)(l:List aa)(p:aW),n+k=rs.length->gF.length=n->
  (∀i,i<n->∃o,r2 kp rs i o/\gF[i]?=some (plO kp rs o))->UT kp rs n l p->UT kp rs rs (ss kp (rs.drop n) gF l p).1 (ss kp (rs.drop n) gF l p).2:=by
 intro k;induction k with
 |zero=>
  intro n gF l p aH _ _ h;have:n=rs.length:=by omega
  subst this;rw[E4];exact h
 |succ k bO=>
  intro n gF l p aH av Xk h;have aN:n<rs.length:=by omega
  have al:rs[n]?=some rs[n]:=bn aN;rw[jA aN];generalize rs[n]=r at*;unfold ss;obtain⟨a,bD⟩:∃a,a=(if 0<=r.bJ/\r.bJ<gF.length then gF[r.bJ.toNat]?.getD 0 else -1):=⟨_,rfl⟩;rw[<-bD];have hpa:UO kp rs n r a:=by
   by_cases hp:0<=r.bJ/\r.bJ<n
   .obtain⟨o,ab,ad⟩:=Xk r.bJ.toNat (by omega);rw[av,aP hp,ad]at bD;exact .inl ⟨hp.1,hp.2,o,ab,bD⟩
   .rw[av,aw hp]at bD;exact .inr ⟨hp,bD⟩
  clear bD;have hR:=abq (kp:=kp) al;by_cases ai:kp r=true
  .rw[aP ai]at hR⊢;refine bO (n+1) _ _ _ (by omega) (by simp[av]) (λi aD=> ?_) ⟨by simp[h.mX,hR],by simp[h.pl,hR],λi s aD aO qM=> ?_,λj i ay=> ?_⟩
   .rcases rT i n with v_|v_
    .rw[lQ (by omega)];exact Xk i v_
    .obtain rfl:i=n:=by omega
     rw[k4 (by omega),av,k7];exact⟨some i,.self al ai,by rw[h.mX];rfl⟩
   .rcases rT i n with v_|v_
    .obtain⟨ab,q,ad,ao⟩:=h.at_ i s v_ aO qM;exact⟨by rw[lQ ((b2 ab).1)];exact ab,q,ad,by rw[lQ ((b2 ao).1)];exact ao⟩
    .obtain rfl:i=n:=by omega
     obtain rfl:r=s:=cJ (al.symm.trans aO);refine⟨?_,a,hpa,?_⟩
     .rw[k4 (by rw[h.mX];exact bB _),h.mX,k7,av];rfl
     .rw[k4 (by rw[h.pl];exact bB _),h.pl,k7];rfl
   .rcases rT j l with pn|pn
    .rw[lQ pn]at ay;obtain⟨ab,ad,ao⟩:=h.sq j i ay;exact⟨by omega,ad,ao⟩
    .rw[k4 pn]at ay;obtain⟨W4,hj3⟩:=b2 ay;simp at W4;have:j=l.length:=by omega
     subst this;simp[av]at hj3;subst hj3;exact⟨by omega,h.mX.symm,r,al,ai⟩
  .rw[aw ai]at hR⊢;refine bO (n+1) _ _ _ (by omega) (by simp[av]) (λi aD=> ?_) ⟨by simp[h.mX,hR],by simp[h.pl,hR],λi s aD aO qM=> ?_,λj i ay=> ?_⟩
   .rcases rT i n with v_|v_
    .rw[lQ (by omega)];exact Xk i v_
    .obtain rfl:i=n:=by omega
     rw[k4 (by omega),av,k7];have iz:kp r=false:=by simpa using ai
     rcases hpa with⟨ab,ad,o,ao,aR⟩|⟨ab,ad⟩
     .exact⟨o,.up al iz ab ad ao,by rw[aR];rfl⟩
     .exact⟨none,.top al iz ab,by rw[ad];rfl⟩
   .rcases rT i n with v_|v_
    .exact h.at_ i s v_ aO qM
    .obtain rfl:i=n:=by omega
     obtain rfl:r=s:=cJ (al.symm.trans aO);exact absurd qM ai
   .obtain⟨ab,ad,ao⟩:=h.sq j i ay;exact⟨by omega,ad,ao⟩
def tm(kp:br->Bool)(rs:List br):UT kp rs rs (b8 kp rs).1 (b8 kp rs).2:=
 anZ kp rs rs 0 [] [] [] (by omega) rfl (λi h=>by omega) ⟨rfl,rfl,λi r h=>by omega,λk i h=>by simp at h⟩
structure vU(A B:List br)(r s:br):Prop where
 aM:r.aM=s.aM
 bx:r.bx=s.bx
 d_:r.d_=s.d_
 cZ:r.cZ=s.cZ
 cT:r.cT=s.cT
 g:r.g=s.g
 v:r.v=s.v
 bJ:(r.bJ= -1/\s.bJ= -1)\/(0<=r.bJ/\0<=s.bJ/\∃p q,A[r.bJ.toNat]?=some p/\B[s.bJ.toNat]?=some q/\p.aM=q.aM)
structure Ic(A:List br):Prop where
 dz:∀(i j:aa)(r s:br),A[i]?=some r->A[j]?=some s->r.aM=s.aM->i=j
 bJ:∀(i:aa)(r:br),A[i]?=some r->r.bJ= -1\/(0<=r.bJ/\r.bJ<i/\∃p,A[r.bJ.toNat]?=some p/\p.bx=r.bx)
structure qn(A B:List br)(d:J):Prop where
 a:Ic A
 b:Ic B
 yB:∀(i:aa)(r:br),A[i]?=some r->r.bx=d->∃(j:aa)(s:br),B[j]?=some s/\vU A B r s
 aun:∀(j:aa)(s:br),B[j]?=some s->s.bx=d->∃(i:aa)(r:br),A[i]?=some r/\vU A B r s
def UM(A B:List br)(i j:aa):Prop:=∃r s,A[i]?=some r/\B[j]?=some s/\r.aM=s.aM
open Classical in
noncomputable def tp(A B:List br)(i:aa):aa:=if h:∃j,UM A B i j then Classical.choose h else 0
def qn.mt{A B:List br}{d:J}(_h:qn A B d){i j:aa}(hm:UM A B i j)(af:Ic B):tp A B i=j:=by
 have hex:∃j,UM A B i j:=⟨j,hm⟩;unfold tp;rw[dif_pos hex];obtain⟨r,s,ab,ad,ao⟩:=Ot hex;obtain⟨lo,s',g1,g2,g3⟩:=hm;obtain rfl:r=lo:=cJ (ab.symm.trans g1);exact af.dz _ _ _ _ ad g2 (ao.symm.trans g3)
def qn.at_{A B:List br}{d:J}(h:qn A B d){i:aa}{r:br}(aD:A[i]?=some r)(aE:r.bx=d):∃s,B[tp A B i]?=some s/\vU A B r s:=by
 obtain⟨j,s,ab,ad⟩:=h.yB i r aD aE;have:=h.mt ⟨r,s,aD,ab,ad.aM⟩ h.b;exact⟨s,by rw[this];exact ab,ad⟩
section
variable {A B:List br} {d dt:J}
def vU.keep{r s:br}(h:vU A B r s):bz d dt r=bz d dt s:=by unfold bz;rw[h.bx,h.cZ,h.cT]
def qn.par(h:qn A B d){i:aa}{r s:br}(aD:A[i]?=some r)(aE:r.bx=d)(aO:B[tp A B i]?=some s)(XE:vU A B r s)(hp:0<=r.bJ):0<=s.bJ/\s.bJ<tp A B i/\s.bJ.toNat=tp A B r.bJ.toNat/\∃p,A[r.bJ.toNat]?=some p/\p.bx=d:=by
 rcases XE.bJ with⟨ab,_⟩|⟨_,ad,p,q,ao,aR,bw⟩
 .omega
 .have aN:s.bJ<tp A B i:=by
   rcases h.b.bJ _ _ aO with g|⟨_,g,_⟩
   .omega
   .exact g
  refine⟨ad,aN,(h.mt ⟨p,q,ao,aR,bw⟩ h.b).symm,?_⟩;rcases h.a.bJ _ _ aD with g|⟨_,_,AS,g1,g2⟩
  .omega
  .exact⟨AS,g1,g2.trans aE⟩
def qn.top(_h:qn A B d){r s:br}(XE:vU A B r s)(hp:¬0<=r.bJ):¬0<=s.bJ:=by
 rcases XE.bJ with⟨_,ad⟩|⟨ab,_⟩
 .omega
 .exact absurd ab hp
def qn.YC(h:qn A B d){i:aa}{o:Option aa}(aH:r2 (bz d dt) A i o):∀r,A[i]?=some r->r.bx=d->r2 (bz d dt) B (tp A B i) (o.map (tp A B))/\∀m,o=some m->∃s,A[m]?=some s/\bz d dt s=true:=by
 induction aH with
 |self ab ad=>
  intro r aC aE;obtain⟨s,g1,g2⟩:=h.at_ aC aE;obtain rfl:=cJ (ab.symm.trans aC);exact⟨.self g1 (by rw[<-g2.keep];exact ad),λm hm=>by obtain rfl:=cJ hm;exact⟨_,ab,ad⟩⟩
 |up ab ad ao aR bw bO=>
  intro r aC aE;obtain⟨s,g1,g2⟩:=h.at_ aC aE;obtain rfl:=cJ (ab.symm.trans aC);obtain⟨bd,a8,dI,p,dk,ud⟩:=h.par aC aE g1 g2 ao;obtain⟨w1,w2⟩:=bO p dk ud;exact⟨.up g1 (by rw[<-g2.keep];exact ad) bd a8 (by rw[dI];exact w1),w2⟩
 |top ab ad ao=>
  intro r aC aE;obtain⟨s,g1,g2⟩:=h.at_ aC aE;obtain rfl:=cJ (ab.symm.trans aC);refine⟨.top g1 (by rw[<-g2.keep];exact ad) (λaT=> ?_),λm hm=>by cases hm⟩;rcases h.a.bJ _ _ aC with g|⟨g,ju,_⟩
  .exact h.top g2 (by omega) aT.1
  .exact ao ⟨g,ju⟩
def qn.ae0(h:qn A B d){j:aa}{s:br}(ay:B[j]?=some s)(ai:bz d dt s=true):∃i r,A[i]?=some r/\bz d dt r=true/\tp A B i=j:=by
 have aE:s.bx=d:=by unfold bz at ai;simp at ai;exact ai.1
 obtain⟨i,r,ab,ad⟩:=h.aun j s ay aE;exact⟨i,r,ab,by rw[ad.keep];exact ai,h.mt ⟨r,s,ab,ay,ad.aM⟩ h.b⟩
def xF{r:br}(h:bz d dt r=true):r.bx=d:=by unfold bz at h;simp at h;exact h.1
noncomputable def EL(A B:List br)(d dt:J)(k:aa):aa:=hB (bz d dt) B (tp A B ((b8 (bz d dt) A).1[k]?.getD 0))
def EM(_h:qn A B d){i:aa}{r:br}(aD:A[i]?=some r)(ai:bz d dt r=true):EL A B d dt (hB (bz d dt) A i)=hB (bz d dt) B (tp A B i):=by
 unfold EL;rw[((tm (bz d dt) A).at_ i r (b2 aD).1 aD ai).1];rfl
def qn.ap2(h:qn A B d){apl apl':aa->Bool}(bD:∀(i:aa)(r:br),A[i]?=some r->bz d dt r=true->apl' (hB (bz d dt) B (tp A B i))=apl (hB (bz d dt) A i)):
  Twin (EL A B d dt) (b8 (bz d dt) A).2 (b8 (bz d dt) B).2 (λk=>(gG A (b8 (bz d dt) A).1)[k]?.getD 0) (λk=>(gG B (b8 (bz d dt) B).1)[k]?.getD 0) apl apl':=by
 have eR:=tm (bz d dt) A;have hO:=tm (bz d dt) B;have get:∀k,k<(b8 (bz d dt) A).2.length->∃i r s,A[i]?=some r/\bz d dt r=true/\hB (bz d dt) A i=k/\B[tp A B i]?=some s/\vU A B r s/\bz d dt s=true:=λk ai=>by
  rw[eR.pl,<-eR.mX]at ai;obtain⟨ab,ad,r,ao,aR⟩:=eR.sq k _ (bn ai);obtain⟨s,g1,g2⟩:=h.at_ ao (xF aR);exact⟨_,r,s,ao,aR,ad,g1,g2,by rw[<-g2.keep];exact aR⟩
 have ltB:∀{j:aa}{s:br},B[j]?=some s->bz d dt s=true->hB (bz d dt) B j<(b8 (bz d dt) B).2.length:=λay aO=>by
  rw[hO.pl];exact ID ay aO (b2 ay).1
 refine⟨λk ai=> ?_,λk nQ ai iz he=> ?_,λj ay=> ?_,λk p hp=> ?_,λk p hp=> ?_,λk ai=> ?_,λk ai=> ?_⟩
 .obtain⟨i,r,s,ab,ad,rfl,aR,bw,eL⟩:=get k ai;rw[EM h ab ad];exact ltB aR eL
 .obtain⟨i,r,s,ab,ad,rfl,aR,bw,eL⟩:=get k ai;obtain⟨avu,lo,s',g1,g2,rfl,g4,g5,g6⟩:=get nQ iz;rw[EM h ab ad,EM h g1 g2]at he;have Gl:=abp aR eL g4 g6 he;rw[Gl]at aR;obtain rfl:=cJ (aR.symm.trans g4);rw[h.a.dz _ _ _ _ ab g1 (bw.aM.trans g5.aM.symm)]
 .rw[hO.pl,<-hO.mX]at ay;obtain⟨ab,ad,s,ao,aR⟩:=hO.sq j _ (bn ay);obtain⟨i,r,g1,g2,g3⟩:=h.ae0 ao aR;refine⟨hB (bz d dt) A i,?_,?_⟩
  .rw[eR.pl];exact ID g1 g2 (b2 g1).1
  .rw[EM h g1 g2,g3,ad]
 .obtain⟨i,r,s,ab,ad,rfl,aR,bw,eL⟩:=get k (b2 hp).1;rw[EM h ab ad];obtain⟨_,q,az,iX⟩:=eR.at_ i r (b2 ab).1 ab ad;obtain rfl:=cJ (hp.symm.trans iX);obtain⟨_,G1,pr,akI⟩:=hO.at_ _ s (b2 aR).1 aR eL;rw[akI];congr 1;have nkd:∀{kp:br->Bool}{rs:List br}{i:aa}{o zo:Option aa},r2 kp rs i o->r2 kp rs i zo->o=zo:=by
   intro kp rs i o zo ab;induction ab generalizing zo with
   |self a b=>intro ad;cases ad with
    |self=>rfl
    |up fI j7=>have:=cJ (a.symm.trans fI);subst this;rw[b]at j7;cases j7
    |top fI j7=>have:=cJ (a.symm.trans fI);subst this;rw[b]at j7;cases j7
   |up a b c e f bO=>intro ad;cases ad with
    |self fI j7=>have:=cJ (a.symm.trans fI);subst this;rw[b]at j7;cases j7
    |up fI j7 fF IJ nm=>have:=cJ (a.symm.trans fI);subst this;exact bO nm
    |top fI j7 fF=>have:=cJ (a.symm.trans fI);subst this;exact absurd ⟨c,e⟩ fF
   |top a b c=>intro ad;cases ad with
    |self fI j7=>have:=cJ (a.symm.trans fI);subst this;rw[b]at j7;cases j7
    |up fI j7 fF IJ nm=>have:=cJ (a.symm.trans fI);subst this;exact absurd ⟨fF,IJ⟩ c
    |top=>rfl
  have aE:=xF ad;rcases az with⟨eS,a2,o,a3,rfl⟩|⟨eS,rfl⟩
  .obtain⟨c9,bW,j8,AS,ee,fm⟩:=h.par ab aE aR bw eS;obtain⟨aY,a'⟩:=h.YC a3 AS ee fm;rcases pr with⟨_,_,zo,cv,rfl⟩|⟨aQ,_⟩
   .rw[j8]at cv;rw[nkd cv aY]
    cases o with
    |none=>rfl
    |some m=>
     obtain⟨sm,d1,d2⟩:=a' m rfl;show ((hB (bz d dt) B (tp A B m):aa):J)=iM _ ((hB (bz d dt) A m:aa):J);unfold iM;rw[aw (by omega),c7,EM h d1 d2]
   .exact absurd ⟨c9,bW⟩ aQ
  .have aH:¬0<=s.bJ:=by
    rcases h.a.bJ _ _ ab with g|⟨g,ju,_⟩
    .exact h.top bw (by omega)
    .exact absurd ⟨g,ju⟩ eS
   rcases pr with⟨aQ,_⟩|⟨_,rfl⟩
   .exact absurd aQ aH
   .rfl
 .obtain⟨i,r,s,ab,ad,rfl,aR,bw,eL⟩:=get k (b2 hp).1;obtain⟨_,q,az,iX⟩:=eR.at_ i r (b2 ab).1 ab ad;obtain rfl:=cJ (hp.symm.trans iX);rcases az with⟨eS,a2,o,a3,rfl⟩|⟨eS,rfl⟩
  .have le:∀{i:aa}{o:Option aa},r2 (bz d dt) A i o->∀m,o=some m->m<=i/\∃s,A[m]?=some s/\bz d dt s=true:=by
    intro i o aH;induction aH with
    |self a b=>intro m hm;obtain rfl:=cJ hm;exact⟨bB _,_,a,b⟩
    |up a b c e f bO=>intro m hm;obtain⟨g1,g2⟩:=bO m hm;exact⟨by omega,g2⟩
    |top=>intro m hm;cases hm
   cases o with
   |none=>show (-1:J)<= -1/\(-1:J)<_;omega
   |some m=>
    obtain⟨g1,sm,g2,g3⟩:=le a3 m rfl;have:=ID g2 g3 (show m<i by omega);show (-1:J)<=((hB (bz d dt) A m:aa):J)/\((hB (bz d dt) A m:aa):J)<_;omega
  .omega
 .obtain⟨i,r,s,ab,ad,rfl,aR,bw,eL⟩:=get k ai;rw[EM h ab ad];have aQ:=(eR.at_ i r (b2 ab).1 ab ad).1;have a_:=(hO.at_ _ s (b2 aR).1 aR eL).1;unfold gG;simp only[hS,aQ,a_,ab,aR,qi,b9];exact bw.d_.symm
 .obtain⟨i,r,s,ab,ad,rfl,aR,bw,eL⟩:=get k ai;rw[EM h ab ad];exact bD i r ab ad
end
def SN{par pri:aW}{apl:List Bool}: -2<=kz par pri apl:=by
 unfold kz;split
 .exact (aez _ _ _ _).1
 .decide
def G4{par pri:aW}{apl:List Bool}(_h:0<=kz par pri apl):kz par pri apl<par.length:=by
 unfold kz;split
 .exact (aez _ _ _ _).2
 .omega
def G'{par pri:aW}(av:pri.length=par.length):o1 par pri=true↔par.length<=8/\∀(i:aa)(p:J),par[i]?=some p-> -1<=p/\p<i/\0<=pri[i]?.getD 0/\pri[i]?.getD 0<=9:=by
 unfold o1;rw[nB,nB,gg,gg,Tp];constructor
 .rintro⟨_,ab,ad⟩;refine⟨ab,λi p hp=> ?_⟩;have:=um (ad i (me.2 (b2 hp).1));rw[hp]at this;exact this
 .rintro⟨ab,ad⟩;refine⟨av.symm,ab,λi aD=>jR ?_⟩;have:=ad i _ (bn (me.1 aD));rw[bn (me.1 aD)];exact this
def Twin.tree{σ:aa->aa}{par par' pri gY:aW}{apl apl':aa->Bool}(h:Twin σ par par' (λk=>pri[k]?.getD 0) (λk=>gY[k]?.getD 0) apl apl')(av:pri.length=par.length)(mz:gY.length=par'.length)(tW:∀(i:aa)(p:J),par'[i]?=some p-> -1<=p/\p<i):o1 par' gY=o1 par pri:=by
 rw[nZ,G' av,G' mz,h.len];refine and_congr Iff.rfl ⟨λaT i p hp=> ?_,λaT j p hp=> ?_⟩
 .have aD:=(b2 hp).1;obtain⟨_,_,ao,aR⟩:=aT (σ i) _ (h.Ez i p hp);obtain⟨ab,ad⟩:=h.low i p hp;have:=h.zs i aD;rw[this]at ao aR;exact⟨ab,ad,ao,aR⟩
 .obtain⟨i,aD,rfl⟩:=h.C1 j (b2 hp).1;obtain⟨_,_,ao,aR⟩:=aT i _ (bn aD);obtain⟨ab,ad⟩:=tW _ p hp;have:=h.zs i aD;rw[this];exact⟨ab,ad,ao,aR⟩
def adZ{kp:br->Bool}{rs:List br}{i k:aa}{r:br}{q:J}(_hi:rs[i]?=some r)(_hk:kp r=true)(aq:hB kp rs i=k)(az:UO kp rs i r q): -1<=q/\q<k:=by
 have le:∀{i:aa}{o:Option aa},r2 kp rs i o->∀m,o=some m->m<=i/\∃s,rs[m]?=some s/\kp s=true:=by
  intro i o aH;induction aH with
  |self a b=>intro m hm;obtain rfl:=cJ hm;exact⟨bB _,_,a,b⟩
  |up a b c e f bO=>intro m hm;obtain⟨g1,g2⟩:=bO m hm;exact⟨by omega,g2⟩
  |top=>intro m hm;cases hm
 rcases az with⟨eS,a2,o,a3,rfl⟩|⟨_,rfl⟩
 .cases o with
  |none=>exact⟨by show (-1:J)<= -1;omega,by show (-1:J)<k;omega⟩
  |some m=>
   obtain⟨g1,s,g2,g3⟩:=le a3 m rfl;have:=ID g2 g3 (show m<i by omega);exact⟨by show (-1:J)<=((hB kp rs m:aa):J);omega,by show ((hB kp rs m:aa):J)<k;omega⟩
 .exact⟨by omega,by omega⟩
noncomputable def fW(Lf:gD)(E:dT)(rs:List br)(d:J):bC×J×J×J:=
 if (e0 Lf E rs d).2.1≠0 then (v0,0,(e0 Lf E rs d).2.1,(e0 Lf E rs d).2.2)
 else if (e0 Lf E rs d).1= -1 then (v0,0,10,-1)
 else if (e0 Lf E rs d).1= -2 then (v0,0,11,-1)
 else if (hW Lf E (rs[(e0 Lf E rs d).1.toNat]?.getD jz).v).2≠0 then (v0,0,(hW Lf E (rs[(e0 Lf E rs d).1.toNat]?.getD jz).v).2,(e0 Lf E rs d).1)
 else ((hW Lf E (rs[(e0 Lf E rs d).1.toNat]?.getD jz).v).1,(e0 Lf E rs d).1,0,0)
theorem aaJ{Lf:gD}{E E':dT}{rs:List br}:∀(l:List aa)(acc:List Bool),(∀i∈l,∀r,rs[i]?=some r->zH E E' r.g)->(∀i∈l,∃r,rs[i]?=some r)->fw Lf E rs l acc=fw Lf E' rs l acc
 |[],_,_,_=>rfl
 |i::r,acc,h,aj=>by
  obtain⟨s,aO⟩:=aj i (by simp);have he:hW Lf E s.g=hW Lf E' s.g:=(h i (by simp) s aO).eval;unfold fw;rw[aO,b9,he];simp only[aaJ r _ (λj ay=>h j (by simp[ay])) (λj ay=>aj j (by simp[ay]))]
def ao6{Lf:gD}{E E':dT}{rs:List br}{d:J}(D7:E.dt=E'.dt)(h:∀(i:aa)(r:br),rs[i]?=some r->r.bx=d->zH E E' r.g/\zH E E' r.v):fW Lf E rs d=fW Lf E' rs d:=by
 have R:=tm (bz d E'.dt) rs;have dG:∀i∈(b8 (bz d E'.dt) rs).1,∃r,rs[i]?=some r/\r.bx=d:=λi aD=>by
  obtain⟨k,ai⟩:=mc aD;obtain⟨_,_,r,ab,ad⟩:=R.sq k i ai;exact⟨r,ab,xF ad⟩
 have bD:fw Lf E rs (b8 (bz d E'.dt) rs).1 []=fw Lf E' rs (b8 (bz d E'.dt) rs).1 []:=aaJ _ _ (λi aD r aC=>by
  obtain⟨s,ab,ad⟩:=dG i aD;obtain rfl:=cJ (aC.symm.trans ab);exact (h i _ aC ad).1) (λi aD=>(dG i aD).elim λr h=>⟨r,h.1⟩)
 have aO:e0 Lf E rs d=e0 Lf E' rs d:=by
  unfold e0;rw[D7,bD]
 unfold fW;rw[aO];by_cases ar:(e0 Lf E' rs d).2.1≠0
 .rw[aP ar,aP ar]
 rw[aw ar,aw ar];by_cases ab:(e0 Lf E' rs d).1= -1
 .rw[aP ab,aP ab]
 rw[aw ab,aw ab];by_cases ad:(e0 Lf E' rs d).1= -2
 .rw[aP ad,aP ad]
 rw[aw ad,aw ad];have hex:∃r,rs[(e0 Lf E' rs d).1.toNat]?=some r/\r.bx=d:=by
  unfold e0 at ar ab ad⊢;by_cases g0:(fw Lf E' rs (b8 (bz d E'.dt) rs).1 []).2.1≠0
  .rw[aP g0]at ar;exact absurd g0 ar
  rw[aw g0]at ab ad⊢;generalize az:kz (b8 (bz d E'.dt) rs).2 (gG rs (b8 (bz d E'.dt) rs).1) (fw Lf E' rs (b8 (bz d E'.dt) rs).1 []).1=q at*;by_cases g1:q<0
  .rw[aP g1]at ab ad;have:=SN (par:=(b8 (bz d E'.dt) rs).2) (pri:=gG rs (b8 (bz d E'.dt) rs).1) (apl:=(fw Lf E' rs (b8 (bz d E'.dt) rs).1 []).1);rw[az]at this;simp only at ab ad;omega
  .rw[aw g1];have aN:=G4 (par:=(b8 (bz d E'.dt) rs).2) (pri:=gG rs (b8 (bz d E'.dt) rs).1) (apl:=(fw Lf E' rs (b8 (bz d E'.dt) rs).1 []).1);rw[az]at aN;have qN:q.toNat<(b8 (bz d E'.dt) rs).1.length:=by
    rw[R.mX,<-R.pl];have:=aN (by omega);omega
   obtain⟨r,aQ,a_⟩:=dG _ (vH qN);refine⟨r,?_,a_⟩;simp only[c7];rw[bn qN,b9];exact aQ
 obtain⟨r,aC,aE⟩:=hex;rw[aC,b9,(h _ r aC aE).2.eval]
theorem Io{Lf:gD}{E:dT}{rs:List br}:∀(l:List aa)(acc:List Bool),((fw Lf E rs l acc).2.1=0↔∀i∈l,(rs[i]?.getD jz).g.length=0\/(hW Lf E (rs[i]?.getD jz).g).2=0)/\
  ((fw Lf E rs l acc).2.1=0->(fw Lf E rs l acc).1=acc++l.map (λi=>decide ((rs[i]?.getD jz).g.length=0\/(hW Lf E (rs[i]?.getD jz).g).1.n=1)))
 |[],acc=>by simp[fw]
 |i::r,acc=>by
  unfold fw;by_cases ar:(rs[i]?.getD jz).g.length=0
  .rw[aP ar];obtain⟨ab,ad⟩:=Io (Lf:=Lf) (E:=E) (rs:=rs) r (acc++[true]);refine⟨?_,λh=> ?_⟩
   .rw[ab];constructor
    .intro aT j ay;rcases fM.1 ay with rfl|ay
     .exact .inl ar
     .exact aT j ay
    .exact λaT j ay=>aT j (by simp[ay])
   .rw[ad h,zE,jR (.inl ar),nY];rfl
  .rw[aw ar];by_cases ao:(hW Lf E (rs[i]?.getD jz).g).2≠0
   .rw[aP ao];refine⟨⟨λh=>absurd h ao,λh=> ?_⟩,λh=>absurd h ao⟩;rcases h i (by simp)with h|h
    .exact absurd h ar
    .exact h
   .rw[aw ao];obtain⟨ab,ad⟩:=Io (Lf:=Lf) (E:=E) (rs:=rs) r (acc++[decide ((hW Lf E (rs[i]?.getD jz).g).1.n=1)]);have Wb:(hW Lf E (rs[i]?.getD jz).g).2=0:=by omega
    refine⟨?_,λh=> ?_⟩
    .rw[ab];simp[Wb]
    .rw[ad h];have:¬(rs[i]?.getD jz).g=[]:=λe=>ar (by rw[e];rfl);simp[this]
def qn.G6{A B:List br}{d:J}(h:qn A B d){Lf:gD}{E:dT}:((e0 Lf E A d).2.1=0↔(e0 Lf E B d).2.1=0)/\
  ((e0 Lf E A d).2.1=0->((e0 Lf E A d).1<0->(e0 Lf E B d).1=(e0 Lf E A d).1)/\(0<=(e0 Lf E A d).1->0<=(e0 Lf E B d).1/\∃r s,A[(e0 Lf E A d).1.toNat]?=some r/\B[(e0 Lf E B d).1.toNat]?=some s/\vU A B r s)):=by
 have eR:=tm (bz d E.dt) A;have hO:=tm (bz d E.dt) B;obtain⟨eS,a2⟩:=Io (Lf:=Lf) (E:=E) (rs:=A) (b8 (bz d E.dt) A).1 [];obtain⟨c9,bW⟩:=Io (Lf:=Lf) (E:=E) (rs:=B) (b8 (bz d E.dt) B).1 [];have h':(fw Lf E A (b8 (bz d E.dt) A).1 []).2.1=0↔(fw Lf E B (b8 (bz d E.dt) B).1 []).2.1=0:=by
  rw[eS,c9];constructor
  .intro g j ay;obtain⟨k,ai⟩:=mc ay;obtain⟨_,_,s,ab,ad⟩:=hO.sq k j ai;obtain⟨i,r,g1,g2,g3⟩:=h.ae0 ab ad;have:=g i (fe (eR.at_ i r (b2 g1).1 g1 g2).1);obtain⟨s',aQ,a_⟩:=h.at_ g1 (xF g2);rw[g3]at aQ;rw[g1,b9,a_.g]at this;rw[aQ,b9];exact this
  .intro g i aD;obtain⟨k,ai⟩:=mc aD;obtain⟨_,_,r,ab,ad⟩:=eR.sq k i ai;obtain⟨s,aQ,a_⟩:=h.at_ ab (xF ad);have:=g _ (fe (hO.at_ _ s (b2 aQ).1 aQ (by rw[<-a_.keep];exact ad)).1);rw[aQ,b9,<-a_.g]at this;rw[ab,b9];exact this
 have hsA:(e0 Lf E A d).2.1=(fw Lf E A (b8 (bz d E.dt) A).1 []).2.1:=by
  unfold e0;split
  .rfl
  .rename_i aT;split<;>(simp at aT;simp[aT])
 have hsB:(e0 Lf E B d).2.1=(fw Lf E B (b8 (bz d E.dt) B).1 []).2.1:=by
  unfold e0;split
  .rfl
  .rename_i aT;split<;>(simp at aT;simp[aT])
 refine⟨by rw[hsA,hsB,h'],λar=> ?_⟩;rw[hsA]at ar;have Md:=h'.1 ar;have uU:=a2 ar;have rr:=bW Md;rw[qj]at uU rr;have hrel:kz (b8 (bz d E.dt) B).2 (gG B (b8 (bz d E.dt) B).1) (fw Lf E B (b8 (bz d E.dt) B).1 []).1=iM (EL A B d E.dt) (kz (b8 (bz d E.dt) A).2 (gG A (b8 (bz d E.dt) A).1) (fw Lf E A (b8 (bz d E.dt) A).1 []).1):=by
  rw[uU,rr];have T:=h.ap2 (dt:=E.dt) (apl:=λi=>((b8 (bz d E.dt) A).1.map (λi=>decide ((A[i]?.getD jz).g.length=0\/(hW Lf E (A[i]?.getD jz).g).1.n=1)))[i]?.getD false)
   (apl':=λi=>((b8 (bz d E.dt) B).1.map (λi=>decide ((B[i]?.getD jz).g.length=0\/(hW Lf E (B[i]?.getD jz).g).1.n=1)))[i]?.getD false) (λi r aD ai=>by
    obtain⟨s,aQ,a_⟩:=h.at_ aD (xF ai);have f1:=(eR.at_ i r (b2 aD).1 aD ai).1;have f2:=(hO.at_ _ s (b2 aQ).1 aQ (by rw[<-a_.keep];exact ai)).1;simp only[hS,f1,f2,qi,b9,aD,aQ,a_.g])
  have hlen:(b8 (bz d E.dt) B).2.length=(b8 (bz d E.dt) A).2.length:=by
   have hp:=T.len;exact hp
  have ak9:o1 (b8 (bz d E.dt) B).2 (gG B (b8 (bz d E.dt) B).1)=o1 (b8 (bz d E.dt) A).2 (gG A (b8 (bz d E.dt) A).1):=T.tree (by unfold gG;rw[er,eR.mX,eR.pl]) (by unfold gG;rw[er,hO.mX,hO.pl]) (λi p hp=>by
   obtain⟨k,ai,jm⟩:=T.C1 i (b2 hp).1;have ab:=T.Ez k _ (bn ai);rw[jm,hp]at ab;have ay:=bn (l:=(b8 (bz d E.dt) B).1) (i:=i) (by rw[hO.mX,<-hO.pl];exact (b2 hp).1);obtain⟨_,g2,s,g3,g4⟩:=hO.sq i _ ay;obtain⟨_,q,az,iX⟩:=hO.at_ _ s (b2 g3).1 g3 g4;rw[g2,hp]at iX;obtain rfl:=cJ iX;exact adZ g3 g4 g2 az)
  unfold kz;rw[ak9,hlen,er,er,eR.mX,hO.mX,<-eR.pl,<-hO.pl,hlen];by_cases cr:o1 (b8 (bz d E.dt) A).2 (gG A (b8 (bz d E.dt) A).1)=true
  .rw[aP ⟨cr,rfl⟩,aP ⟨cr,rfl⟩];exact T.G6 _
  .rw[aw (λaT=>cr aT.1),aw (λaT=>cr aT.1)];rfl
 have B3:¬(fw Lf E A (b8 (bz d E.dt) A).1 []).2.1≠0:=λaT=>aT ar;have im:¬(fw Lf E B (b8 (bz d E.dt) B).1 []).2.1≠0:=λaT=>aT Md;have Xa:=G4 (par:=(b8 (bz d E.dt) A).2) (pri:=gG A (b8 (bz d E.dt) A).1) (apl:=(fw Lf E A (b8 (bz d E.dt) A).1 []).1);unfold e0;rw[aw B3,aw im,hrel];generalize kz (b8 (bz d E.dt) A).2 (gG A (b8 (bz d E.dt) A).1) (fw Lf E A (b8 (bz d E.dt) A).1 []).1=q at*;by_cases az:q<0
 .have av:iM (EL A B d E.dt) q=q:=by unfold iM;rw[aP az]
  rw[av,aP az,aP az];exact⟨λ_=>rfl,λaT=>by simp only at aT;omega⟩
 .have av:¬iM (EL A B d E.dt) q<0:=by unfold iM;rw[aw az];omega
  rw[aw az,aw av];refine⟨λaT=>by simp only at aT;omega,λ_=>⟨by simp only;omega,?_⟩⟩;have ai:q.toNat<(b8 (bz d E.dt) A).1.length:=by
   rw[eR.mX,<-eR.pl];have:=Xa (by omega);omega
  have al:=bn ai;obtain⟨_,g2,r,g3,g4⟩:=eR.sq _ _ al;obtain⟨s,aQ,a_⟩:=h.at_ g3 (xF g4);have f2:=(hO.at_ _ s (b2 aQ).1 aQ (by rw[<-a_.keep];exact g4)).1;have ak3:(iM (EL A B d E.dt) q).toNat=hB (bz d E.dt) B (tp A B (b8 (bz d E.dt) A).1[q.toNat]):=by
   unfold iM;rw[aw az,c7];unfold EL;rw[al,b9]
  refine⟨r,s,?_,?_,a_⟩
  .simp only[c7,al,b9];exact g3
  .simp only[c7,ak3,f2,b9];exact aQ
def qn.step{A B:List br}{d:J}(h:qn A B d){Lf:gD}{E:dT}(a7:(fW Lf E A d).2.2.1=0):(fW Lf E B d).2.2.1=0/\(fW Lf E B d).1=(fW Lf E A d).1:=by
 obtain⟨ab,ad⟩:=h.G6 (Lf:=Lf) (E:=E);unfold fW at a7⊢;by_cases a0:(e0 Lf E A d).2.1≠0
 .rw[aP a0]at a7;exact absurd a7 a0
 have Lu:(e0 Lf E A d).2.1=0:=by omega
 have kD:¬(e0 Lf E B d).2.1≠0:=λaT=>aT (ab.1 Lu);obtain⟨ao,aR⟩:=ad Lu;rw[aw a0]at a7⊢;rw[aw kD];by_cases eS:(e0 Lf E A d).1= -1
 .rw[aP eS]at a7;exact absurd a7 (by decide)
 rw[aw eS]at a7⊢;by_cases a2:(e0 Lf E A d).1= -2
 .rw[aP a2]at a7;exact absurd a7 (by decide)
 rw[aw a2]at a7⊢;have l9:0<=(e0 Lf E A d).1:=by
  rcases afD (e0 Lf E A d).1 0 with aN|nI
  .exfalso;have:(e0 Lf E A d).1= -1\/(e0 Lf E A d).1= -2\/0<=(e0 Lf E A d).1:=by
    unfold e0;rw[aw (by
     intro aT;unfold e0 at Lu;rw[aP aT]at Lu;exact aT Lu)]
    have:=SN (par:=(b8 (bz d E.dt) A).2) (pri:=gG A (b8 (bz d E.dt) A).1) (apl:=(fw Lf E A (b8 (bz d E.dt) A).1 []).1);split
    .rename_i aT;simp only;omega
    .right;right;simp only;omega
   omega
  .exact nI
 obtain⟨bw,r,s,eL,hX,eI⟩:=aR l9;rw[aw (by omega),aw (by omega)];rw[eL,b9]at a7⊢;rw[hX,b9,<-eI.v];by_cases e:(hW Lf E r.v).2≠0
 .rw[aP e]at a7;exact absurd a7 e
 .rw[aw e,aw e];exact⟨rfl,rfl⟩
def i'{a b:J}(h:a≠b):(a==b)=false:=by simpa using h
def ahf{op:J}(h:op<1\/39<op):eP op= -1:=by
 unfold eP;rw[aw (by omega),aw (by omega),aw (by omega),aw (by omega)]
def Iq(op:J)(w:ag):bg 152 #[op] w λe w'=>e=bL (ah (eP op))/\w=w':=by
 rcases (show (op=1\/op=2\/op=3\/op=4\/op=5\/op=6\/op=7\/op=8\/op=9\/op=10\/op=11\/op=12\/op=13\/op=14\/op=15\/op=16\/op=17\/op=18\/op=19\/op=20\/op=21\/op=22\/op=23\/op=24\/op=25\/op=26\/op=27\/op=28\/op=29\/op=30\/op=31\/op=32\/op=33\/op=34\/op=35\/op=36\/op=37\/op=38\/op=39)\/(op<1\/39<op) by omega)with aq|aq
 .rcases aq with rfl|rfl|rfl|rfl|rfl|rfl|rfl|rfl|rfl|rfl|rfl|rfl|rfl|rfl|rfl|rfl|rfl|rfl|rfl|rfl|rfl|rfl|rfl|rfl|rfl|rfl|rfl|rfl|rfl|rfl|rfl|rfl|rfl|rfl|rfl|rfl|rfl|rfl|rfl
  all_goals
   go_enter func152,ntmps152
   go_wp2_with fail
   go_ret;exact⟨rfl,rfl⟩
 .have aX:=I (ahf aq);have aQ:=i' (show op≠1 by omega);have a_:=i' (show op≠2 by omega);have cv:=i' (show op≠3 by omega);have h_:=i' (show op≠4 by omega);have ko:=i' (show op≠5 by omega);have qB:=i' (show op≠6 by omega);have r9:=i' (show op≠7 by omega);have DR:=i' (show op≠8 by omega);have L2:=i' (show op≠9 by omega);have Qg:=i' (show op≠10 by omega);have e11:=i' (show op≠11 by omega);have e12:=i' (show op≠12 by omega);have e13:=i' (show op≠13 by omega);have e14:=i' (show op≠14 by omega);have e15:=i' (show op≠15 by omega);have e16:=i' (show op≠16 by omega);have e17:=i' (show op≠17 by omega);have e18:=i' (show op≠18 by omega);have e19:=i' (show op≠19 by omega);have e20:=i' (show op≠20 by omega);have e21:=i' (show op≠21 by omega);have e22:=i' (show op≠22 by omega);have e23:=i' (show op≠23 by omega);have e24:=i' (show op≠24 by omega);have e25:=i' (show op≠25 by omega);have e26:=i' (show op≠26 by omega);have e27:=i' (show op≠27 by omega);have e28:=i' (show op≠28 by omega);have e29:=i' (show op≠29 by omega);have e30:=i' (show op≠30 by omega);have e31:=i' (show op≠31 by omega);have e32:=i' (show op≠32 by omega);have e33:=i' (show op≠33 by omega);have e34:=i' (show op≠34 by omega);have e35:=i' (show op≠35 by omega);have L1:=i' (show op≠36 by omega);have Qh:=i' (show op≠37 by omega);have VK:=i' (show op≠38 by omega);have e39:=i' (show op≠39 by omega);clear aq;go_enter func152,ntmps152
  go_wp2_with fail
  go_ret;rw[aX];exact⟨rfl,rfl⟩
end Go.Proofs.YtilhklpfkgbikaaGreatDoor
