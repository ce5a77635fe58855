import Derived.Test.YtobpgndkciofhaaGreatDoorA
import Derived.Test.YtobpgndkciofhaaGreatDoorCards
import Derived.Test.YtobpgndkciofhaaGreatDoorTie
import Derived.Deep.DeepHandedRow
import Derived.Lib.LaidTab
import Derived.SizedLaws
set_option linter.all false
namespace Go.Proofs.YtobpgndkciofhaaGreatDoor
open Go.RowKit Go.Proofs.Tryz
open Go.Lib (hid)
set_option maxRecDepth 100000
set_option maxHeartbeats 8000000
theorem Bz {a b:Int} (h:a≠b):(a==b)=false:=by simpa using h
theorem akr (k e:Int) (ms:List (List ByteArray)):((k=1∨k=2∨k=3∨k=4∨k=5)∧(e=0∧kn k e ms=true∨(e==0)=false∧kn k e ms=false))∨(k=6∧(e<0∧kn k e ms=false∨∃j:Nat,e=j∧(decide (j<ms.length)=true∧kn k e ms=true∨decide (j<ms.length)=false∧kn k e ms=false)))∨
  ((k<1∨6<k)∧kn k e ms=false):=by
 by_cases eJ:k=6
 ·subst eJ;refine .inr (.inl ⟨rfl,?_⟩);rw[abi];by_cases he:e<0
  ·exact .inl ⟨he,by rw[decide_eq_false (by omega)];rfl⟩
  ·refine .inr ⟨e.toNat,by omega,?_⟩;rw[decide_eq_true (show 0≤e by omega),Bool.true_and];by_cases aB:e.toNat<ms.length
   ·exact .inl ⟨decide_eq_true aB,decide_eq_true (by omega)⟩
   ·exact .inr ⟨decide_eq_false aB,decide_eq_false (by omega)⟩
 ·rw[abh eJ];by_cases aa:1≤k∧k≤5
  ·refine .inl ⟨by omega,?_⟩;rw[decide_eq_true aa.1,decide_eq_true aa.2];by_cases he:e=0
   ·exact .inl ⟨he,by simp[he]⟩
   ·exact .inr ⟨Bz he,by simp[he]⟩
  ·refine .inr (.inr ⟨by omega,?_⟩);by_cases I:1≤k
   ·rw[decide_eq_true I,decide_eq_false (show¬k≤5 by omega)];rfl
   ·rw[decide_eq_false I];rfl
theorem IM (k e:Int) (v:Value) (ms:List (List ByteArray)) (w:World) (aX:Enums w v ms):
  Calls prog 80 #[.agg #[k,e],v] w fun r w'=>r= .returned (.bool (kn k e ms))∧Kept w w':=by
 obtain⟨A,cap,rfl,hm,_⟩:=aX;rcases akr k e ms with⟨aa,⟨rfl,ay⟩|⟨he,ay⟩⟩|⟨rfl,⟨he,ay⟩|⟨j,rfl,⟨aB,ay⟩|⟨aB,ay⟩⟩⟩|⟨aa,ay⟩
 iterate 2
  ·have eU:=hid ay;clear ay;rcases aa with rfl|rfl|rfl|rfl|rfl
   all_goals
    go_enter func80,ntmps80
    go_wp2_with fail
    go_ret;rw[eU.out];exact⟨rfl,(aQ _).alloc _⟩
 iterate 3
  ·have eU:=hid ay;clear ay;go_enter func80,ntmps80
   go_wp2_with fail
   go_ret;rw[eU.out]
   first|exact⟨rfl,(aQ _).alloc _⟩|exact⟨eD aB,(aQ _).alloc _⟩
 ·have eU:=hid ay;clear ay;have ak:=Bz (show k≠1 by omega);have a':=Bz (show k≠2 by omega);have bw:=Bz (show k≠3 by omega);have cG:=Bz (show k≠4 by omega);have cQ:=Bz (show k≠5 by omega);have eW:=Bz (show k≠6 by omega);go_enter func80,ntmps80
  go_wp2_with fail
  go_ret;rw[eU.out];exact⟨rfl,(aQ _).alloc _⟩
theorem aks {k e:Int} {ms:List (List ByteArray)} (h:kn k e ms=true):((k=1∨k=2∨k=3∨k=4∨k=5)∧e=0)∨(k=6∧∃j:Nat,e=j∧j<ms.length):=by
 rcases akq h with⟨he,aa⟩|⟨aa,aj,I⟩
 ·exact .inl ⟨aa,he⟩
 ·exact .inr ⟨aa,e.toNat,by omega,by omega⟩
theorem Oo (k e:Int) (v:Value) (ms:List (List ByteArray)) (w:World) (aX:Enums w v ms):
  Calls prog 67 #[.agg #[k,e],v] w fun r w'=>r= .returned (.tuple #[.int .i64 (nQ k e ms).1,.int .i64 (nQ k e ms).2])∧Kept w w':=by
 have D5:=fun o=>aX.kept ((aQ w).alloc o);have bl:=hid (fun w h=>IM k e v ms w h)
 cases ay:kn k e ms
 ·have aI:=hid (show nQ k e ms=(0,-1) by rw[nQ,ay];rfl);rw[ay]at bl;clear ay;go_enter func67,ntmps67
  go_wp2_with (go_at_call 80;refine (bl.out _ (D5 _)).mono ?_;rintro r w1 ⟨rfl,aa⟩)
  go_ret2
  rw[aI.out];exact⟨rfl,((aQ _).alloc _).trans aa⟩
 ·have aI:=hid (show nQ k e ms=Ol k e ms by rw[nQ,ay];rfl);rw[ay]at bl;have ah:=aks ay;clear ay;rcases ah with⟨aa,rfl⟩|⟨rfl,j,rfl,aB⟩
  ·rcases aa with rfl|rfl|rfl|rfl|rfl
   all_goals
    go_enter func67,ntmps67
    go_wp2_with (go_at_call 80;refine (bl.out _ (D5 _)).mono ?_;rintro r w1 ⟨rfl,aa⟩;have B:=aa.UG;have b5:=B.cell 0)
    go_ret2
    rw[aI.out];exact⟨rfl,((aQ _).alloc _).trans aa⟩
  ·obtain⟨b,off,cap,n,aT,aM,l,aq,aA,ns,rfl,J,oY,_⟩:=aX.at_ aB;have hm:=aX;obtain⟨_,_,_,hm,_⟩:=hm;have eU:=hid (show Ol 6 (j:Int) ms=(0,(n:Int)-1) by
    show (0,((E3 (j:Int) ms).length:Int)-1)=_;rw[E3,Int.toNat_natCast,aq,←aA];rfl)
   clear aq aA;go_enter func67,ntmps67
   go_wp2_with (go_at_call 80;refine (bl.out _ (D5 _)).mono ?_;rintro r w1 ⟨rfl,aa⟩;have B:=aa.UG;have b5:=B.cell 0)
   have aC:=al.cell B.lt (B.cell 1);have ie:=al.cell (bd J (((aQ w).alloc _).trans aa).size) ((((aQ w).alloc _).trans aa).ad J oY);have gu:(j:Int)<ms.length:=by omega
   refine fQ (by kernel_rfl) (by kernel_rfl) ?_
   repeat (go_big_quiet_step (fail))
   refine wpQuiet_nil ?_;rintro _ ⟨⟨bt,cj⟩,rfl⟩;go_wp2_with fail
   go_ret2
   rw[aI.out,eU.out];exact⟨rfl,(((aQ _).alloc _).trans aa).trans cj⟩
structure bg where
 k:Int
 e:Int
 n:Int
def AQ (x:bg):List Value:=[.int .i64 x.k,x.e,x.n]
theorem IL (x:bg):(AQ x).length=3:=rfl
abbrev ff (w:World) (v:Value) (xs:List bg):Prop:=gV w AQ 3 v xs
structure cO where
 k:Int
 e:Int
structure sz where
 m:Int
 ins:List cO
def zO (ms:List (List ByteArray)):Nat→List cO→List bg→Nat×Int
 |i,t::ba,v::eg=>if v.k=t.k∧v.e=t.e then (if QN v.n t.k t.e ms then zO ms (i+1) ba eg else (i,3))else (i,8)
 |_,_,_=>(0,0)
def l5 (ms:List (List ByteArray)) (ba:List cO) (eg:List bg):Nat×Int:=
 if eg.length<ba.length then (eg.length,5)else if ba.length<eg.length then (ba.length,4)else zO ms 0 ba eg
def r3 (c1:List sz) (s:sz):List cO×Nat:=if s.m<0∨(c1.length:Int)≤s.m then ([],0)else ((c1[s.m.toNat]?.getD ⟨0,[]⟩).ins,8)
def x9 (ms:List (List ByteArray)) (ba:List cO):Nat→List (List bg)→Int×Int×Int
 |_,[]=>(0,0,0)
 |m,eg::r=>if (l5 ms ba eg).2=0 then x9 ms ba (m+1) r else (m,(l5 ms ba eg).1,(l5 ms ba eg).2)
def s' (ms:List (List ByteArray)) (c1:List sz) (sc d:Int) (ins:List bg) (mem:List (List bg)):Int×Int×Int:=
 if sc<0∨(c1.length:Int)≤sc then (-1,-1,6)
 else if d<0∨109572<d then (-1,-1,3)
 else
  let s:=c1[sc.toNat]?.getD ⟨0,[]⟩
  if (l5 ms s.ins ins).2=0 then
   (if (r3 c1 s).2<mem.length then ((r3 c1 s).2,-1,4)else x9 ms (r3 c1 s).1 0 mem)
  else (-1,(l5 ms s.ins ins).1,(l5 ms s.ins ins).2)
def th (w:World) (v:Value) (ba:List cO):Prop:=
 ∃A cap,v= .slice A ba.length cap∧(0<ba.length→∃b off,A=some ⟨b,off,none⟩∧b<w.heap.size∧
  ∀j t,ba[j]?=some t→w.cell? ⟨b,off+j*3+1,none⟩=some (.int .i64 t.k)∧w.cell? ⟨b,off+j*3+2,none⟩=some (.int .i64 t.e))
theorem th.kept {w w':World} {v:Value} {ba:List cO} (h:th w v ba) (aa:Kept w w'):th w' v ba:=by
 obtain⟨A,cap,ay,af⟩:=h;refine⟨A,cap,ay,fun hp=> ?_⟩;obtain⟨b,off,aK,J,ah⟩:=af hp;exact⟨b,off,aK,bd J aa.size,fun j t aB=>⟨aa.ad J (ah j t aB).1,aa.ad J (ah j t aB).2⟩⟩
theorem th.nil (w:World):th w aR []:=⟨none,0,rfl,fun h=>absurd h (by simp)⟩
def zA (w:World) (v:Value) (c1:List sz):Prop:=
 ∃A cap,v= .slice A c1.length cap∧c1.length≤9223372036854775807∧(0<c1.length→∃b off,A=some ⟨b,off,none⟩∧b<w.heap.size∧
  ∀j s,c1[j]?=some s→s.ins.length≤9223372036854775807∧w.cell? ⟨b,off+j*5+1,none⟩=some (.int .i64 s.m)∧∃bo,w.cell? ⟨b,off+j*5+2,none⟩=some bo∧th w bo s.ins)
theorem zA.kept {w w':World} {v:Value} {c1:List sz} (h:zA w v c1) (aa:Kept w w'):zA w' v c1:=by
 obtain⟨A,cap,ay,aq,af⟩:=h;refine⟨A,cap,ay,aq,fun hp=> ?_⟩;obtain⟨b,off,aK,J,ah⟩:=af hp;refine⟨b,off,aK,bd J aa.size,fun j s aB=> ?_⟩;obtain⟨aj,I,bo,U,ae⟩:=ah j s aB;exact⟨aj,aa.ad J I,bo,aa.ad J U,ae.kept aa⟩
def Gb (w:World) (v:Value) (ms:List (List ByteArray)) (c1:List sz):Prop:=
 ∃c_ At ik gX b2,v= .agg #[c_,.slice At ik gX,b2]∧Enums w c_ ms∧zA w b2 c1
theorem Gb.kept {w w':World} {v:Value} {ms:List (List ByteArray)} {c1:List sz} (h:Gb w v ms c1) (aa:Kept w w'):Gb w' v ms c1:=by
 obtain⟨c_,At,ik,gX,b2,ay,aX,bj⟩:=h;exact⟨c_,At,ik,gX,b2,ay,aX.kept aa,bj.kept aa⟩
def ld (w:World) (v:Value) (mem:List (List bg)):Prop:=
 ∃A cap,v= .slice A mem.length cap∧mem.length≤9223372036854775807∧(0<mem.length→∃b off,A=some ⟨b,off,none⟩∧b<w.heap.size∧
  ∀j l,mem[j]?=some l→l.length≤9223372036854775807∧∃bT,w.cell? ⟨b,off+j,none⟩=some bT∧ff w bT l)
theorem ld.kept {w w':World} {v:Value} {mem:List (List bg)} (h:ld w v mem) (aa:Kept w w'):ld w' v mem:=by
 obtain⟨A,cap,ay,aq,af⟩:=h;refine⟨A,cap,ay,aq,fun hp=> ?_⟩;obtain⟨b,off,aK,J,ah⟩:=af hp;refine⟨b,off,aK,bd J aa.size,fun j s aB=> ?_⟩;obtain⟨aj,bT,I,U⟩:=ah j s aB;exact⟨aj,bT,aa.ad J I,U.kept aa⟩
theorem ld.nil (w:World):ld w aR []:=⟨none,0,rfl,by decide,fun h=>absurd h (by simp)⟩
theorem ff.at_ {w:World} {v:Value} {xs:List bg} (h:ff w v xs):∃A cap,v= .slice A xs.length cap∧(0<xs.length→∃b off,A=some ⟨b,off,none⟩∧b<w.heap.size∧
  ∀j t,xs[j]?=some t→w.cell? ⟨b,off+j*3,none⟩=some (.int .i64 t.k)∧w.cell? ⟨b,off+j*3+1,none⟩=some (.int .i64 t.e)∧w.cell? ⟨b,off+j*3+2,none⟩=some (.int .i64 t.n)):=by
 obtain⟨A,cap,ay,af⟩:=h;refine⟨A,cap,ay,fun hp=> ?_⟩;obtain⟨b,off,aK,J,ah⟩:=af hp;exact⟨b,off,aK,J,fun j t aB=>⟨ah j t aB 0 _ rfl,ah j t aB 1 _ rfl,ah j t aB 2 _ rfl⟩⟩
theorem J4 {a b:Int} (h:a≠b):(a !=b)=true:=by simpa using h
theorem ado {ms:List (List ByteArray)} {ba:List cO} {eg:List bg} {i:Nat} {t:cO} {v:bg} (I:ba[i]?=some t) (U:eg[i]?=some v):
  zO ms i (ba.drop i) (eg.drop i)=if v.k=t.k∧v.e=t.e then (if QN v.n t.k t.e ms then zO ms (i+1) (ba.drop (i+1)) (eg.drop (i+1))else (i,3))else (i,8):=by
 obtain⟨aE,rfl⟩:=b8 I;obtain⟨aB,rfl⟩:=b8 U;rw[List.drop_eq_getElem_cons aE,List.drop_eq_getElem_cons aB,zO]
theorem adp {ms:List (List ByteArray)} {ba:List cO} {eg:List bg} {i:Nat} (h:¬i<eg.length):zO ms i (ba.drop i) (eg.drop i)=(0,0):=by
 rw[List.drop_eq_nil_iff.2 (show eg.length≤i by omega)]
 cases ba.drop i<;>rfl
def Ka (R:Nat×Int) (w:World) (e:Ending) (w':World):Prop:=e= .returned (.tuple #[R.1,R.2])∧Kept w w'
theorem U9 (c_:Value) (At Sv:Option Addr) (ik gX s5 cs:Nat) (n8 bo:Value) (ms:List (List ByteArray)) (ba:List cO) (eg:List bg) (w:World) (aX:Enums w c_ ms) (dZ:ff w n8 eg) (bC:th w bo ba) (aq:eg.length≤9223372036854775807):
  Calls prog 49 #[.agg #[c_,.slice At ik gX,.slice Sv s5 cs],n8,bo] w (Ka (l5 ms ba eg) w):=by
 unfold Ka;obtain⟨aoa,sF,rfl,GX⟩:=dZ.at_;obtain⟨dS,ci,rfl,GW⟩:=id bC;have y_:=hid (fun (k e:Int) (w1:World) (aa:Kept w w1)=>Oo k e c_ ms w1 (aX.kept aa));obtain⟨cY,ce,rfl,_,_⟩:=id aX;by_cases I:eg.length<ba.length
 ·have aI:=hid (show l5 ms ba eg=(eg.length,5) by rw[l5,if_pos I]);have Pf:(eg.length:Int)<ba.length:=by omega
  rw[aI.out];clear GX GW dZ bC aX I;go_enter func49,ntmps49
  go_wp2_with fail
  go_ret2
  exact⟨rfl,(aQ _).alloc _⟩
 by_cases U:ba.length<eg.length
 ·have aI:=hid (show l5 ms ba eg=(ba.length,4) by rw[l5,if_neg I,if_pos U]);have Pf:¬((eg.length:Int)<ba.length):=by omega
  have h2i:(ba.length:Int)<eg.length:=by omega
  rw[aI.out];clear GX GW dZ bC aX I U;go_enter func49,ntmps49
  go_wp2_with fail
  go_ret2
  exact⟨rfl,(aQ _).alloc _⟩
 have hlen:ba.length=eg.length:=by omega
 have aI:=hid (show l5 ms ba eg=zO ms 0 (ba.drop 0) (eg.drop 0) by rw[l5,if_neg I,if_neg U];rfl);obtain⟨n,aA⟩:∃n,n=eg.length:=⟨_,rfl⟩;rw[hlen,←aA]at GW;rw[←aA]at GX aq;rw[hlen,←aA];have bk:=hid aA;have zh:=hid (aA.trans hlen.symm);clear dZ bC aX I U hlen aA;go_enter func49,ntmps49
 go_wp2_with fail
 generalize ar:w.alloc _=W at*;obtain⟨pN,V4⟩:=Kept.az ar;clear ar;go_loopw [29] (fun y wr=>∃i:Nat,y= .int .i64 i∧i≤n∧Kept w wr∧ao wr w.heap.size 26 #[.slice cY ms.length ce,.slice At ik gX,.slice Sv s5 cs]∧zO ms i (ba.drop i) (eg.drop i)=l5 ms ba eg) (fun y _=>n-(intOf y).toNat)
 case atStart=>exact⟨0,rfl,Nat.zero_le _,pN,V4,aI.out.symm⟩
 case round=>
  obtain⟨i,rfl,de,ab,aU,aG⟩:=hrel;clear pN V4;by_cases aD:i<n
  ·obtain⟨bY,jv,rfl,ea,cx⟩:=GX (by omega);obtain⟨bc,k4,rfl,dK,fE⟩:=GW (by omega);have e2:eg[i]?=some (eg[i]'(by have:=bk.out;omega)):=a8 _;have dT:ba[i]?=some (ba[i]'(by have:=zh.out;omega)):=a8 _;obtain⟨bZ,b3,cT⟩:=cx i _ e2;obtain⟨e3,ee⟩:=fE i _ dT;rw[ado dT e2]at aG;generalize eg[i]'(by have:=bk.out;omega)=V at*;generalize ba[i]'(by have:=zh.out;omega)=T at*;have gd:=ab.ad ea bZ;have hO:=ab.ad ea b3;have iv:=ab.ad ea cT;have wK:=ab.ad dK e3;have Bu:=ab.ad dK ee;have c6:(i:Int)<n:=by omega
   have b5:=aU.cell 0;have ad:=aU.lt;have b1r:=bd ea ab.size;have b2r:=bd dK ab.size;clear bZ b3 cT e3 ee cx fE e2 dT GX GW;obtain⟨cy,bE,fJ⟩:=V;obtain⟨fb,e9⟩:=T;dsimp only at aG gd hO iv wK Bu;by_cases rK:cy=fb
   ·by_cases iI:bE=e9
    ·subst rK iI;rw[if_pos ⟨rfl,rfl⟩]at aG;have qc:=hid (y_.out cy bE);have Hw:QN fJ cy bE ms=(decide ((nQ cy bE ms).1≤fJ)&&decide (fJ≤(nQ cy bE ms).2)):=rfl;rw[Hw]at aG;generalize nQ cy bE ms=R at*;obtain⟨ei,aE⟩:=R;dsimp only at qc aG;have afy:(cy !=cy)=false:=by simp
     have amb:(bE !=bE)=false:=by simp
     have cg:=hid (fun w2 (h:Kept ((wr.alloc (.cells #[cy,bE,fJ] 44)).alloc (.cells #[cy,bE] 57)) w2)=>((aU.alloc (.cells #[cy,bE,fJ] 44)).alloc (.cells #[cy,bE] 57)).kept h);have Ec:=(ao.new wr 44 #[cy,bE,fJ]).alloc (.cells #[cy,bE] 57);have cV:=hid (fun w2 (h:Kept ((wr.alloc (.cells #[cy,bE,fJ] 44)).alloc (.cells #[cy,bE] 57)) w2)=>(Ec.kept h).cell 2);have mr:=hid ((ab.alloc (.cells #[cy,bE,fJ] 44)).alloc (.cells #[cy,bE] 57));have fE:W.heap.size≤W.heap.size:=Nat.le_refl _;clear Ec fE;by_cases pQ:ei≤fJ
     ·have ae7:¬fJ<ei:=by omega
      by_cases vA:fJ≤aE
      ·rw[decide_eq_true pQ,decide_eq_true vA,if_pos (by decide)]at aG;have aeZ:¬aE<fJ:=by omega
       have dd:=hid aG;clear aU aG Hw y_ pQ vA;go_wp2_with (go_at_call 67;refine (qc.out _ mr.out).mono ?_;rintro e w2 ⟨rfl,a'⟩;have dR:=cV.out w2 a')
       go_roundw
       case rel=>exact⟨i+1,rfl,aD,mr.out.trans a',cg.out w2 a',dd.out⟩
       case measure=>simp[intOf];omega
      ·rw[decide_eq_true pQ,decide_eq_false vA,if_neg (by decide)]at aG;have aeZ:aE<fJ:=by omega
       have dd:=hid aG;clear aU aG Hw y_ pQ vA;go_wp2_with (go_at_call 67;refine (qc.out _ mr.out).mono ?_;rintro e w2 ⟨rfl,a'⟩;have dR:=cV.out w2 a')
       go_ret2
       rw[←dd.out];exact⟨rfl,mr.out.trans a'⟩
     ·rw[decide_eq_false pQ,Bool.false_and,if_neg (by decide)]at aG;have ae7:fJ<ei:=by omega
      have dd:=hid aG;clear aU aG Hw y_ pQ;go_wp2_with (go_at_call 67;refine (qc.out _ mr.out).mono ?_;rintro e w2 ⟨rfl,a'⟩;have dR:=cV.out w2 a')
      go_ret2
      rw[←dd.out];exact⟨rfl,mr.out.trans a'⟩
    ·subst rK;rw[if_neg (fun h=>iI h.2)]at aG;have afy:(cy !=cy)=false:=by simp
     have dK:=J4 iI;have dd:=hid aG;have mr:=hid ((ab.alloc (.cells #[cy,bE,fJ] 44)).alloc (.cells #[cy,e9] 57));clear aU aG y_ iI;go_wp2_with fail
     go_ret2
     rw[←dd.out];exact⟨rfl,mr.out⟩
   ·rw[if_neg (fun h=>rK h.1)]at aG;have dK:=J4 rK;have dd:=hid aG;have mr:=hid ((ab.alloc (.cells #[cy,bE,fJ] 44)).alloc (.cells #[fb,e9] 57));clear aU aG y_ rK;go_wp2_with fail
    go_ret2
    rw[←dd.out];exact⟨rfl,mr.out⟩
  ·have c6:¬((i:Int)<n):=by omega
   rw[adp (by have:=bk.out;omega)]at aG;have dd:=hid aG;clear aG aU;go_wp2_with fail
   go_ret2
   rw[←dd.out];exact⟨rfl,ab⟩
section
open Go.ChangeShapes Go.WideShapes Go.ChangeAt Go.RowKit Go.Joins Go.Deep
theorem Gz {α:Type} {p:Nat→α→Prop}:∀(n:Nat),(∀i,i<n→∃x,p i x)→∃xs:List α,xs.length=n∧∀(i:Nat) x,xs[i]?=some x→p i x
 |0,_=>⟨[],rfl,fun i x h=>by simp at h⟩
 |n+1,h=>by
  obtain⟨xs,aq,af⟩:=Gz n (fun i aE=>h i (by omega));obtain⟨y,db⟩:=h n (by omega);refine⟨xs++[y],by simp[aq],fun i x aE=> ?_⟩;by_cases aD:i<xs.length
  ·rw[List.getElem?_append_left aD]at aE;exact af i x aE
  ·have de:i=n:=by
    have:=(b8 aE).1;rw[List.length_append,List.length_singleton]at this;omega
   subst de;rw[List.getElem?_append_right (by omega),aq,Nat.sub_self]at aE;obtain rfl:y=x:=Option.some.inj aE;exact db
def pA (w:World) (k:Nat) (p:World→Nat→Nat→Prop) (v:Value):Prop:=
 ∃A n cap,v= .slice A n cap∧n≤9223372036854775807∧(0<n→∃b off,A=some ⟨b,off,none⟩∧b<w.heap.size∧∀j,j<n→p w b (off+j*k))
def og (p:World→Nat→Nat→Prop):Prop:=∀w w' b o,Kept w w'→b<w.heap.size→p w b o→p w' b o
theorem pA.kept {w w':World} {k:Nat} {p:World→Nat→Nat→Prop} {v:Value} (hp:og p) (h:pA w k p v) (aa:Kept w w'):pA w' k p v:=by
 obtain⟨A,n,cap,ay,aA,af⟩:=h;refine⟨A,n,cap,ay,aA,fun aj=> ?_⟩;obtain⟨b,off,aK,J,ah⟩:=af aj;exact⟨b,off,aK,bd J aa.size,fun j aB=>hp _ _ _ _ aa J (ah j aB)⟩
def jD (w:World) (b o:Nat):Prop:=∃s,w.cell? ⟨b,o,none⟩=some (.string s)
def fp (w:World) (b o:Nat):Prop:=∃n,w.cell? ⟨b,o,none⟩=some (.int .i64 n)
def wG (w:World) (b o:Nat):Prop:=∃A n c,w.cell? ⟨b,o,none⟩=some (.slice A n c)∧n≤9223372036854775807
theorem jD.kept:og jD:=fun _ _ b o aa J ⟨s,h⟩=>⟨s,aa.ad J h⟩
theorem fp.kept:og fp:=fun _ _ b o aa J ⟨s,h⟩=>⟨s,aa.ad J h⟩
theorem wG.kept:og wG:=fun _ _ b o aa J ⟨A,n,c,h,aA⟩=>⟨A,n,c,aa.ad J h,aA⟩
def DE (w:World) (b o:Nat):Prop:=jD w b o∧fp w b (o+1)∧fp w b (o+2)∧fp w b (o+3)∧fp w b (o+4)∧fp w b (o+5)∧wG w b (o+6)∧wG w b (o+7)∧jD w b (o+8)
theorem DE.kept:og DE:=fun _ _ _ _ aa J ⟨aj,I,U,ae,aJ,bp,eJ,kc,et⟩=>
 ⟨jD.kept _ _ _ _ aa J aj,fp.kept _ _ _ _ aa J I,fp.kept _ _ _ _ aa J U,fp.kept _ _ _ _ aa J ae,fp.kept _ _ _ _ aa J aJ,fp.kept _ _ _ _ aa J bp,wG.kept _ _ _ _ aa J eJ,wG.kept _ _ _ _ aa J kc,jD.kept _ _ _ _ aa J et⟩
def Gk (w:World) (b o:Nat):Prop:=jD w b o∧fp w b (o+1)∧(∃v,w.cell? ⟨b,o+2,none⟩=some v∧pA w 3 jD v)∧(∃v,w.cell? ⟨b,o+3,none⟩=some v∧pA w 3 jD v)∧∃v,w.cell? ⟨b,o+4,none⟩=some v∧pA w 9 DE v
theorem Gk.kept:og Gk:=fun _ _ b o aa J ⟨aj,I,⟨v2,U,g2⟩,⟨v3,ae,g3⟩,⟨v4,aJ,g4⟩⟩=>
 ⟨jD.kept _ _ _ _ aa J aj,fp.kept _ _ _ _ aa J I,⟨v2,aa.ad J U,g2.kept jD.kept aa⟩,⟨v3,aa.ad J ae,g3.kept jD.kept aa⟩,⟨v4,aa.ad J aJ,g4.kept DE.kept aa⟩⟩
def JM (w:World) (b o:Nat):Prop:=jD w b o∧wG w b (o+5)
theorem JM.kept:og JM:=fun _ _ _ _ aa J ⟨aj,I⟩=>⟨jD.kept _ _ _ _ aa J aj,wG.kept _ _ _ _ aa J I⟩
def JA (w:World) (v:Value):Prop:=∃c_ b4 b2,v= .agg #[c_,b4,b2]∧pA w 2 jD c_∧pA w 6 JM b4∧pA w 5 Gk b2
theorem JA.kept {w w':World} {v:Value} (h:JA w v) (aa:Kept w w'):JA w' v:=by
 obtain⟨c_,b4,b2,ay,aj,I,U⟩:=h;exact⟨c_,b4,b2,ay,aj.kept jD.kept aa,I.kept JM.kept aa,U.kept Gk.kept aa⟩
section
variable {H:Type} {enc:TypeId×Value→H} {w:World}
theorem JU (b o q:Nat):(⟨b,o,none⟩:Addr).add q=⟨b,o+q,none⟩:=by
 unfold Addr.add;by_cases e:q=0
 ·subst e;rfl
 ·simp[e]
theorem Reads.slice {t e:TypeId} {k:Nat} {v:Value} (bS:prog.underlying t=some (.slice e)) (hC:prog.cellsOf e=k) (aa:0<k) (hlen:∀cs,Reads enc w e cs→cs.length=k) (h:Reads enc w t [v]):
  ∃A n cap,v= .slice A n cap∧n≤9223372036854775807∧(n=0→A=none∨True)∧(0<n→∃b off,A=some ⟨b,off,none⟩∧b<w.heap.size∧
   ∀i,i<n→∃cs,cs.length=k∧(∀j,j<k→w.cell? ⟨b,off+i*k+j,none⟩=cs[j]?)∧Reads enc w e cs):=by
 obtain⟨fuel,x,h⟩:=h;rcases open_slice bS h with⟨hv,_⟩|⟨a,len,cap,m,n,D,T_,hv,J,aq,hm,lP,af,aE⟩
 ·simp only[List.cons.injEq,and_true]at hv;exact⟨none,0,0,hv,by omega,fun _=> .inl rfl,fun h=>absurd h (by decide)⟩
 ·simp only[if_true]at lP;subst lP;simp only[List.cons.injEq,and_true]at hv;unfold maxLen at hm;refine⟨some a,len,_,hv,by omega,fun _=> .inr trivial,fun hp=> ?_⟩;have hex:∀i,i<len→∃cs,cs.length=k∧(∀j,j<k→w.cell? ((a.add (i*k)).add j)=cs[j]?)∧Reads enc w e cs:=by
   intro i fP;obtain⟨DV,ah,o4⟩:=aE i (by omega);rw[hC]at ah;obtain⟨_,oY,eG⟩:=World.cells?_some ah;have aH:Reads enc w e DV:=⟨_,_,o4⟩;exact⟨DV,hlen _ aH,fun j aB=>eG j aB,aH⟩
  obtain⟨OF,hl0,fT,_⟩:=hex 0 hp;have b5:w.cell? ((a.add (0*k)).add 0)=some (OF[0]'(by omega)):=by rw[fT 0 aa,a8]
  have J:=UX b5;rw[J3,J3]at J;obtain⟨b,o,sp⟩:=a;have iA:sp=none:=by
   have:=World.cell?_spot b5;simpa[Addr.add] using this
  subst iA;refine⟨b,o,rfl,J,fun i fP=> ?_⟩;obtain⟨cs,eb,aO,aN⟩:=hex i fP;refine⟨cs,eb,fun j aB=> ?_,aN⟩;rw[←aO j aB,JU,JU]
theorem Reads.vR {t:TypeId} {g_:Array Field} {cs:List Value} (bS:prog.underlying t=some (.struct g_)) (h:Reads enc w t cs) (i o:Nat) (T:TypeId) (f:Field) (bO:g_[i]?=some f) (aL:f.offset=o) (bl:f.type=T) (aa:prog.cellsOf T=1) (aD:o<cs.length):
  ∃u,cs[o]?=some u∧Reads enc w T [u]:=by
 have I:=h.sub bS i o 1 T f bO aL bl aa;refine⟨cs[o],a8 aD,?_⟩;rw[List.drop_eq_getElem_cons aD]at I;exact I
theorem Reads.R7 {u:Value} (h:Reads enc w 9 [u]):∃s:ByteArray,u= .string s:=by
 obtain⟨fuel,x,h⟩:=h;obtain⟨s,az,_,_⟩:=DataW.trod_string underlying9 h;simp only[List.cons.injEq,and_true]at az;exact⟨s,az⟩
theorem Reads.afZ {u:Value} (h:Reads enc w 3 [u]):∃n:Int,u= .int .i64 n:=by
 obtain⟨n,e,_⟩:=h.int;simp only[List.cons.injEq,and_true]at e;exact⟨n,e⟩
theorem Reads.agF {t:TypeId} {g_:Array Field} {k:Nat} (bS:prog.underlying t=some (.struct g_)) (hC:prog.cellsOf t=k) {cs:List Value} (h:Reads enc w t cs):cs.length=k:=(h.length bS).trans hC
theorem ac2:prog.cellsOf 9=1:=by kernel_rfl
theorem UP:prog.cellsOf 102=3:=by kernel_rfl
theorem UW:prog.cellsOf 44=3:=by kernel_rfl
theorem US:prog.cellsOf 82=9:=by kernel_rfl
theorem UT:prog.cellsOf 64=5:=by kernel_rfl
theorem UU:prog.cellsOf 60=6:=by kernel_rfl
theorem UO:prog.cellsOf 55=2:=by kernel_rfl
theorem UQ:prog.cellsOf 69=2:=by kernel_rfl
theorem UR:prog.cellsOf 169=5:=by kernel_rfl
theorem ac1:prog.cellsOf 31=1:=by kernel_rfl
theorem akb:prog.underlying 53=some (.slice 9):=by kernel_rfl
theorem aj5:prog.underlying 61=some (.slice 102):=by kernel_rfl
theorem abc:prog.underlying 31=some (.slice 44):=by kernel_rfl
theorem aj6:prog.underlying 32=some (.slice 31):=by kernel_rfl
theorem aj9:prog.underlying 62=some (.slice 82):=by kernel_rfl
theorem aka:prog.underlying 24=some (.slice 64):=by kernel_rfl
theorem akc:prog.underlying 23=some (.slice 60):=by kernel_rfl
theorem aj3:prog.underlying 22=some (.slice 55):=by kernel_rfl
theorem aj7:prog.underlying 70=some (.slice 69):=by kernel_rfl
theorem aj8:prog.underlying 58=some (.slice 169):=by kernel_rfl
theorem ZV {v:Value} (h:Reads enc w 31 [v]):∃xs:List bg,ff w v xs∧xs.length≤9223372036854775807:=by
 obtain⟨A,n,cap,rfl,aA,_,af⟩:=h.slice abc UW (by decide) (fun cs h=>h.agF underlying44 UW);rcases Nat.eq_zero_or_pos n with aj|hp
 ·subst aj;exact⟨[],⟨A,cap,rfl,fun h=>absurd h (by simp)⟩,by simp⟩
 obtain⟨b,off,rfl,J,ah⟩:=af hp;obtain⟨xs,aq,lq⟩:=Gz (p:=fun i (x:bg)=>∀j u,(AQ x)[j]?=some u→w.cell? ⟨b,off+i*3+j,none⟩=some u) n (fun i aE=>by
  obtain⟨cs,oY,fH,aH⟩:=ah i aE;obtain⟨bZ,gY,_⟩:=aH.QP underlying44 0 0 _ rfl rfl rfl;obtain⟨b3,az,_⟩:=aH.QP underlying44 1 1 _ rfl rfl rfl;obtain⟨cT,a6,_⟩:=aH.QP underlying44 2 2 _ rfl rfl rfl;refine⟨⟨bZ,b3,cT⟩,fun j u hu=> ?_⟩;match j,hu with
  |0,hu=>obtain rfl:=Option.some.inj hu;rw[fH 0 (by decide),gY]
  |1,hu=>obtain rfl:=Option.some.inj hu;rw[fH 1 (by decide),az]
  |2,hu=>obtain rfl:=Option.some.inj hu;rw[fH 2 (by decide),a6]
  |j+3,hu=>simp[AQ]at hu)
 subst aq;exact⟨xs,⟨_,cap,rfl,fun _=>⟨b,off,rfl,J,fun j x aB i u hu=>lq j x aB i u hu⟩⟩,aA⟩
theorem ahw {v:Value} (h:Reads enc w 32 [v]):∃mem:List (List bg),ld w v mem:=by
 obtain⟨A,n,cap,rfl,aA,_,af⟩:=h.slice aj6 ac1 (by decide) (fun cs h=>by
  obtain⟨fuel,x,h⟩:=h;rcases open_slice abc h with⟨hv,_⟩|⟨a,len,cap,m,n,D,T_,hv,_⟩<;>rw[hv]<;>rfl)
 rcases Nat.eq_zero_or_pos n with aj|hp
 ·subst aj;exact⟨[],⟨A,cap,rfl,by simp,fun h=>absurd h (by simp)⟩⟩
 obtain⟨b,off,rfl,J,ah⟩:=af hp;obtain⟨xs,aq,lq⟩:=Gz (p:=fun i (l:List bg)=>l.length≤9223372036854775807∧∃bT,w.cell? ⟨b,off+i,none⟩=some bT∧ff w bT l) n (fun i aE=>by
  obtain⟨cs,oY,fH,aH⟩:=ah i aE;match cs,oY with
  |[u],_=>
   obtain⟨l,I,U⟩:=ZV aH;have:=fH 0 (by decide);exact⟨l,U,u,by rw[show off+i=off+i*1+0 by omega,this];rfl,I⟩)
 subst aq;exact⟨xs,⟨_,cap,rfl,aA,fun _=>⟨b,off,rfl,J,lq⟩⟩⟩
end
end
section
variable {α:Type} {f:α→List Value} {k:Nat} {w:World} {B:Nat} {e:TypeId}
theorem c3.block {v:Value} {xs:List α} (h:c3 w B e f k v xs) {g:Nat} (ay:v.ownBlock=some g):∃cur,w.heap[g]?=some (.cells cur e (0,0)):=by
 rcases h.2 with⟨rfl,_⟩|⟨hR,cap,cur,rfl,_,ai,_⟩
 ·cases ay
 ·obtain rfl:hR=g:=Option.some.inj ay;exact⟨cur,ai⟩
theorem c3.frozen {v:Value} {xs:List α} (h:c3 w B e f k v xs) {g:Nat} (ay:v.ownBlock=some g) (i:Nat):w.frozen? ⟨g,i,none⟩=false:=by
 obtain⟨cur,ah⟩:=h.block ay;simp[World.frozen?,ah]
theorem c3.grown {w':World} {v:Value} {xs:List α} {row:Option Nat} (h:c3 w B e f k v xs) (ai:w.grownBy w' row) (bQ:∀b,v.ownBlock=some b→row≠some b):c3 w' B e f k v xs:=by
 refine⟨h.1,?_⟩;rcases h.2 with aA|⟨g,cap,cur,rfl,J,ah,r⟩
 ·exact .inl aA
 ·exact .inr ⟨g,cap,cur,rfl,J,(ai.block g (Array.getElem?_eq_some_iff.1 ah).1 (fun e=>bQ g rfl e.symm)).trans ah,r⟩
theorem acA {wr w1:World} {v:Value} {o:Obj} {g n cap:Nat} (ai:(wr.alloc o).grownBy w1 v.ownBlock) (eG:v.ownBlock=some g∨g=(wr.alloc o).heap.size):mq wr w1 v (.slice (some ⟨g,0,none⟩) n cap):=by
 refine (mq.kept ((aQ wr).alloc o)).trans ⟨ai,fun b J=> ?_⟩;obtain rfl:g=b:=Option.some.inj J;rcases eG with h|h
 ·exact .inl h
 ·exact .inr (by rw[h];exact Nat.le_refl _)
theorem c3.cells {v:Value} {xs:List α} (bO:∀x,(f x).length=k) (h:c3 w B e f k v xs) (hp:0<xs.length):
  ∃g cap,v= .slice (some ⟨g,0,none⟩) xs.length cap∧v.ownBlock=some g∧B≤g∧g<w.heap.size∧xs.length≤cap∧∀(j:Nat) (x:α),xs[j]?=some x→∀i u,(f x)[i]?=some u→w.cell? ⟨g,j*k+i,none⟩=some u:=by
 have aH:=h.yL bO;rcases h.2 with⟨_,aj⟩|⟨g,cap,cur,rfl,aU,ai,ah,_⟩
 ·omega
 ·refine⟨g,cap,rfl,rfl,aU,(Array.getElem?_eq_some_iff.1 ai).1,ah,fun j x aB i u hu=> ?_⟩;obtain⟨A,c,ay,af⟩:=aH;simp only[Value.slice.injEq]at ay;obtain⟨rfl,_,rfl⟩:=ay;obtain⟨b,off,aK,_,fH⟩:=af hp;simp only[Option.some.injEq,Addr.mk.injEq]at aK;obtain⟨rfl,rfl,_⟩:=aK;have:=fH j x aB i u hu;rwa [show 0+j*k+i=j*k+i by omega]at this
end
theorem CH {w:World} {v:Value} {xs:List Nat} (h:gV w k3 1 v xs):∃A cap,v= .slice A xs.length cap∧(0<xs.length→∃b off,A=some ⟨b,off,none⟩∧b<w.heap.size∧∀(j x:Nat),xs[j]?=some x→w.cell? ⟨b,off+j,none⟩=some (.int .i64 (x:Int))):=by
 obtain⟨A,cap,ay,af⟩:=h;refine⟨A,cap,ay,fun hp=> ?_⟩;obtain⟨b,off,aK,J,ah⟩:=af hp;refine⟨b,off,aK,J,fun j x aB=> ?_⟩;have:=ah j x aB 0 _ rfl;rwa [show off+j*1+0=off+j by omega]at this
section
open Go.ChangeShapes Go.WideShapes Go.ChangeAt Go.RowKit Go.Joins
def Zb:DataW Unit→Value
 | .lit (.int k z)=> .int k z
 |_=> .int .i64 0
def ajp:DataW Unit→Array Value
 | .agg xs=>(xs.flatMap fun| .agg bh=>bh.map Zb|d=>[Zb d]).toArray
 |_=>#[]
def Y3 (w:World):List (Nat×DataW Unit)→World
 |[]=>w
 |(g,d)::r=>Y3 {w with heap:=w.heap.modify g fun
   | .cells _ t frozen=> .cells (ajp d) t frozen
   |o=>o} r
noncomputable def Q2 (os:Os):World:=Y3 (World.holding prog os ⟨#[],#[],[]⟩) [(3,Rows.laid_guerdon_date_monthLengths)]
section
variable {H:Type} {enc:TypeId×Value→H}
end
theorem ahP {F:FuncId} {O7:Func} {name:String} (aA:prog.funcNamed name=some F) (hF:prog.funcs[F]?=some O7) {b:Bool} (aq:b=Tryz.pinned.checked.prog.looks [])
  (aZ:O7.params.toList.all (fun t=> !(prog.wantsStandIn t))=true) (f:FuncId) (fn:Func) (bO:Tryz.pinned.checked.prog.funcNamed name=some f) (z7:Tryz.pinned.checked.prog.funcs[f]?=some fn):
  b=Tryz.pinned.checked.prog.looks []∧∀(j:Nat) t,fn.params[j]?=some t→Tryz.pinned.checked.prog.wantsStandIn t=false:=by
 obtain rfl:F=f:=Option.some.inj (aA.symm.trans bO);obtain rfl:O7=fn:=Option.some.inj (hF.symm.trans z7);refine⟨aq,fun j t bS=> ?_⟩;have:=List.all_eq_true.1 aZ t (by simpa using Array.mem_of_getElem? bS);have U:prog.wantsStandIn t=false:=by simpa using this
 exact U
end
section
open Go.ChangeShapes Go.WideShapes Go.ChangeAt Go.RowKit Go.Joins Go.Deep
def xY (w:World) (k:Nat) (p:World→Nat→Nat→Prop) (v:Value):Prop:=
 ∃A n cap,v= .slice A n cap∧n≤cap∧n≤8796093022208∧(0<n→∃b off,A=some ⟨b,off,none⟩∧b<w.heap.size∧∀j,j<n→p w b (off+j*k))
theorem xY.kept {w w':World} {k:Nat} {p:World→Nat→Nat→Prop} {v:Value} (hp:og p) (h:xY w k p v) (aa:Kept w w'):xY w' k p v:=by
 obtain⟨A,n,cap,ay,ah,aA,af⟩:=h;refine⟨A,n,cap,ay,ah,aA,fun aj=> ?_⟩;obtain⟨b,off,aK,J,ah⟩:=af aj;exact⟨b,off,aK,bd J aa.size,fun j aB=>hp _ _ _ _ aa J (ah j aB)⟩
theorem xY.at_ {w:World} {k:Nat} {p:World→Nat→Nat→Prop} {v:Value} (h:xY w k p v):∃A n cap,v= .slice A n cap∧n≤cap∧n≤8796093022208∧(0<n→∃b off,A=some ⟨b,off,none⟩∧b<w.heap.size∧∀j,j<n→p w b (off+j*k)):=h
def wH (k:Nat) (p:World→Nat→Nat→Prop) (w:World) (b o:Nat):Prop:=∃v,w.cell? ⟨b,o,none⟩=some v∧xY w k p v
theorem wH.kept {k:Nat} {p:World→Nat→Nat→Prop} (hp:og p):og (wH k p):=fun _ _ b o aa J ⟨v,h,g⟩=>⟨v,aa.ad J h,g.kept hp aa⟩
def Dx (w:World) (b o:Nat):Prop:=∃v xs,w.cell? ⟨b,o,none⟩=some v∧zw w v xs∧xs.length≤8796093022208∧∀x∈xs,-9223372036854775808≤x.n∧x.n≤9223372036854775807
theorem Dx.kept:og Dx:=fun _ _ b o aa J ⟨v,xs,h,g,l⟩=>⟨v,xs,aa.ad J h,g.kept aa,l⟩
def Ug (w:World) (b o:Nat):Prop:=fp w b o∧fp w b (o+1)
theorem Ug.kept:og Ug:=fun _ _ _ _ aa J ⟨aj,I⟩=>⟨fp.kept _ _ _ _ aa J aj,fp.kept _ _ _ _ aa J I⟩
def CZ (w:World) (b o:Nat):Prop:=jD w b o∧fp w b (o+1)∧fp w b (o+2)
theorem CZ.kept:og CZ:=fun _ _ _ _ aa J ⟨aj,I,U⟩=>⟨jD.kept _ _ _ _ aa J aj,fp.kept _ _ _ _ aa J I,fp.kept _ _ _ _ aa J U⟩
def JG (w:World) (b o:Nat):Prop:=fp w b o∧fp w b (o+1)∧fp w b (o+2)∧fp w b (o+3)∧fp w b (o+4)
theorem JG.kept:og JG:=fun _ _ _ _ aa J ⟨aj,I,U,ae,aJ⟩=>⟨fp.kept _ _ _ _ aa J aj,fp.kept _ _ _ _ aa J I,fp.kept _ _ _ _ aa J U,fp.kept _ _ _ _ aa J ae,fp.kept _ _ _ _ aa J aJ⟩
def JL (w:World) (b o:Nat):Prop:=jD w b o∧fp w b (o+1)∧fp w b (o+2)∧fp w b (o+3)∧fp w b (o+4)∧wH 5 JG w b (o+5)
theorem JL.kept:og JL:=fun _ _ _ _ aa J ⟨aj,I,U,ae,aJ,bp⟩=>⟨jD.kept _ _ _ _ aa J aj,fp.kept _ _ _ _ aa J I,fp.kept _ _ _ _ aa J U,fp.kept _ _ _ _ aa J ae,fp.kept _ _ _ _ aa J aJ,wH.kept JG.kept _ _ _ _ aa J bp⟩
def JK (w:World) (b o:Nat):Prop:=∃s:ByteArray,w.cell? ⟨b,o,none⟩=some (.string s)∧s.size≤140737488355328
theorem JK.kept:og JK:=fun _ _ b o aa J ⟨s,h,g⟩=>⟨s,aa.ad J h,g⟩
def JF (w:World) (b o:Nat):Prop:=jD w b o∧fp w b (o+1)∧fp w b (o+2)∧fp w b (o+3)∧fp w b (o+4)∧fp w b (o+5)∧Dx w b (o+6)∧Dx w b (o+7)∧JK w b (o+8)
theorem JF.kept:og JF:=fun _ _ _ _ aa J ⟨aj,I,U,ae,aJ,bp,eJ,kc,et⟩=>
 ⟨jD.kept _ _ _ _ aa J aj,fp.kept _ _ _ _ aa J I,fp.kept _ _ _ _ aa J U,fp.kept _ _ _ _ aa J ae,fp.kept _ _ _ _ aa J aJ,fp.kept _ _ _ _ aa J bp,Dx.kept _ _ _ _ aa J eJ,Dx.kept _ _ _ _ aa J kc,JK.kept _ _ _ _ aa J et⟩
def JJ (w:World) (b o:Nat):Prop:=jD w b o∧fp w b (o+1)∧wH 3 CZ w b (o+2)∧wH 3 CZ w b (o+3)∧wH 9 JF w b (o+4)
theorem JJ.kept:og JJ:=fun _ _ _ _ aa J ⟨aj,I,U,ae,aJ⟩=>⟨jD.kept _ _ _ _ aa J aj,fp.kept _ _ _ _ aa J I,wH.kept CZ.kept _ _ _ _ aa J U,wH.kept CZ.kept _ _ _ _ aa J ae,wH.kept JF.kept _ _ _ _ aa J aJ⟩
def NV (w:World) (v:Value):Prop:=∃c_ b4 b2,v= .agg #[c_,b4,b2]∧xY w 2 jD c_∧xY w 6 JL b4∧xY w 5 JJ b2
theorem NV.kept {w w':World} {v:Value} (h:NV w v) (aa:Kept w w'):NV w' v:=by
 obtain⟨c_,b4,b2,ay,aj,I,U⟩:=h;exact⟨c_,b4,b2,ay,aj.kept jD.kept aa,I.kept JL.kept aa,U.kept JJ.kept aa⟩
section
variable {H:Type} {enc:TypeId×Value→H} {w:World}
def DK (t:TypeId) (d:DataW H):Prop:=∀n∈d.weights prog t,n≤140737488355328
def hd (enc:TypeId×Value→H) (w:World) (t:TypeId) (cs:List Value):Prop:=∃fuel x,DataW.trod enc prog w 0 (fun _=>true) true fuel t cs=some x∧DK t x.1
theorem aku {e:TypeId} {d:DataW H} {l:List (DataW H)} (av:d∈l) {n:Nat} (aA:n∈d.weights prog e):n∈DataW.weightsAll prog e l:=by
 induction l with
 |nil=>cases av
 |cons x r bH=>
  rw[DataW.weightsAll];rcases List.mem_cons.1 av with rfl|av
  ·exact List.mem_append_left _ aA
  ·exact List.mem_append_right _ (bH av)
theorem hd.reads {t:TypeId} {cs:List Value} (h:hd enc w t cs):Reads enc w t cs:=by
 obtain⟨fuel,x,I,_⟩:=h;exact⟨fuel,x,I⟩
theorem hd.sub {t:TypeId} {g_:Array Field} {cs:List Value} (bS:prog.underlying t=some (.struct g_)) (h:hd enc w t cs) (i o k:Nat) (T:TypeId) (f:Field) (bO:g_[i]?=some f) (aL:f.offset=o) (bl:f.type=T)
  (aa:prog.cellsOf T=k):hd enc w T ((cs.drop o).take k):=by
 obtain⟨fuel,x,h,hw⟩:=h;obtain⟨xs,n,_,af,_,aq,ai⟩:=DataW.trod_struct bS h;have aE:i<g_.size:=(Array.getElem?_eq_some_iff.1 bO).1;have:=ai i f bO;rw[a8 (by omega),bl,aa,aL]at this;refine⟨n,_,this,fun m hm=>hw m ?_⟩;rw[af];simp only[DataW.weights,bS];refine DataW.weights_mem_each (j:=i) (t:=T) (d:=xs[i].1) ?_ ?_ m hm
 ·rw[List.getElem?_map,Array.getElem?_toList,bO];simp[bl]
 ·rw[List.getElem?_map,a8 (by omega)];rfl
theorem hd.vR {t:TypeId} {g_:Array Field} {cs:List Value} (bS:prog.underlying t=some (.struct g_)) (h:hd enc w t cs) (i o:Nat) (T:TypeId) (f:Field) (bO:g_[i]?=some f) (aL:f.offset=o) (bl:f.type=T) (aa:prog.cellsOf T=1) (aD:o<cs.length):
  ∃u,cs[o]?=some u∧hd enc w T [u]:=by
 have I:=h.sub bS i o 1 T f bO aL bl aa;refine⟨cs[o],a8 aD,?_⟩;rw[List.drop_eq_getElem_cons aD]at I;exact I
theorem hd.slice {t e:TypeId} {k:Nat} {v:Value} (bS:prog.underlying t=some (.slice e)) (hC:prog.cellsOf e=k) (aa:0<k) (z:Nat) (ck:prog.bytesOf e=z) (QK:16≤z) (hlen:∀cs,Reads enc w e cs→cs.length=k) (h:hd enc w t [v]):
  ∃A n cap,v= .slice A n cap∧n≤cap∧n≤8796093022208∧(0<n→∃b off,A=some ⟨b,off,none⟩∧b<w.heap.size∧
   ∀i,i<n→∃cs,cs.length=k∧(∀j,j<k→w.cell? ⟨b,off+i*k+j,none⟩=cs[j]?)∧hd enc w e cs):=by
 obtain⟨fuel,x,h,hw⟩:=h;rcases open_slice bS h with⟨hv,_⟩|⟨a,len,cap,m,n,D,T_,hv,J,aq,hm,lP,af,aE⟩
 ·simp only[List.cons.injEq,and_true]at hv;exact⟨none,0,0,hv,Nat.le_refl _,by omega,fun h=>absurd h (by decide)⟩
 ·simp only[if_true]at lP;subst lP;simp only[List.cons.injEq,and_true]at hv;unfold maxLen at hm;have sS:len≤8796093022208:=by
   have gE:=hw ((len+(m-len))*prog.bytesOf e) (by
    rw[af];simp only[DataW.weights,bS];exact List.mem_cons.2 (.inl (by simp)))
   rw[ck]at gE;have Pd:len*16≤(len+(m-len))*z:=Nat.mul_le_mul (by omega) QK;omega
  refine⟨some a,len,_,hv,aq,sS,fun hp=> ?_⟩;have hex:∀i,i<len→∃cs,cs.length=k∧(∀j,j<k→w.cell? ((a.add (i*k)).add j)=cs[j]?)∧hd enc w e cs:=by
   intro i fP;obtain⟨DV,ah,o4⟩:=aE i (by omega);rw[hC]at ah;obtain⟨_,oY,eG⟩:=World.cells?_some ah;have aH:hd enc w e DV:=⟨_,_,o4,fun q au=>hw q (by
    rw[af];simp only[DataW.weights,bS];exact List.mem_cons_of_mem _ (List.mem_append_left _ (aku (List.mem_map.2 ⟨i,List.mem_range.2 fP,rfl⟩) au)))⟩
   exact⟨DV,hlen _ aH.reads,fun j aB=>eG j aB,aH⟩
  obtain⟨OF,hl0,fT,_⟩:=hex 0 hp;have b5:w.cell? ((a.add (0*k)).add 0)=some (OF[0]'(by omega)):=by rw[fT 0 aa,a8]
  have J:=UX b5;rw[J3,J3]at J;obtain⟨b,o,sp⟩:=a;have iA:sp=none:=by
   have:=World.cell?_spot b5;simpa[Addr.add] using this
  subst iA;refine⟨b,o,rfl,J,fun i fP=> ?_⟩;obtain⟨cs,eb,aO,aN⟩:=hex i fP;refine⟨cs,eb,fun j aB=> ?_,aN⟩;rw[←aO j aB,JU,JU]
theorem As {t:TypeId} {g_:Array Field} {k:Nat} (bS:prog.underlying t=some (.struct g_)) (hC:prog.cellsOf t=k) {cs:List Value} (h:Reads enc w t cs):cs.length=k:=(h.length bS).trans hC
theorem hd.R7 {u:Value} (h:hd enc w 9 [u]):∃s:ByteArray,u= .string s∧s.size≤140737488355328:=by
 obtain⟨fuel,x,h,hw⟩:=h;obtain⟨s,az,a6,_⟩:=DataW.trod_string underlying9 h;simp only[List.cons.injEq,and_true]at az;refine⟨s,az,?_⟩;have:=hw s.data.toList.length (by rw[a6];simp[DataW.weights]);rw[Array.length_toList]at this;exact this
theorem hd.qO {t:TypeId} {g_:Array Field} {cs:List Value} {b o:Nat} {k:Nat} (h:hd enc w t cs) (aq:cs.length=k) (ah:∀j,j<k→w.cell? ⟨b,o+j,none⟩=cs[j]?) (bS:prog.underlying t=some (.struct g_)) (i q:Nat) (f:Field) (bO:g_[i]?=some f) (aL:f.offset=q) (bl:f.type=3) (au:q<k):fp w b (o+q):=by
 obtain⟨u,g,r⟩:=h.vR bS i q 3 f bO aL bl (by kernel_rfl) (by omega);obtain⟨n,rfl⟩:=r.reads.afZ;exact⟨n,(ah q au).trans g⟩
theorem Sk:prog.cellsOf 57=2:=by kernel_rfl
theorem Reads.int64 {u:Value} (h:Reads enc w 3 [u]):∃n:Int,u= .int .i64 n∧ -9223372036854775808≤n∧n≤9223372036854775807:=by
 obtain⟨n,e,hw⟩:=h.int;simp only[List.cons.injEq,and_true]at e;refine⟨n,e,?_⟩;rw[Lit.wf,Bool.and_eq_true]at hw;have I:IntKind.i64.min≤n:=of_decide_eq_true hw.1;have U:n≤IntKind.i64.max:=of_decide_eq_true hw.2;rw[show IntKind.i64.min= -9223372036854775808 from by decide]at I;rw[show IntKind.i64.max=9223372036854775807 from by decide]at U;exact⟨I,U⟩
theorem ZU {v:Value} (h:hd enc w 70 [v]):∃xs:List cz,zw w v xs∧xs.length≤8796093022208∧∀x∈xs,-9223372036854775808≤x.n∧x.n≤9223372036854775807:=by
 obtain⟨A,n,cap,rfl,ah,aA,af⟩:=h.slice aj7 UQ (by decide) 16 (by kernel_rfl) (by decide) (fun cs h=>As underlying69 UQ h);rcases Nat.eq_zero_or_pos n with aj|hp
 ·subst aj;exact⟨[],⟨A,cap,rfl,fun h=>absurd h (by simp)⟩,by simp,fun x h=>(by cases h)⟩
 obtain⟨b,off,rfl,J,hv⟩:=af hp;obtain⟨xs,aq,lq⟩:=Gz (p:=fun i (x:cz)=>(∀j u,(Rm x)[j]?=some u→w.cell? ⟨b,off+i*2+j,none⟩=some u)∧(-9223372036854775808≤x.n∧x.n≤9223372036854775807)) n (fun i aE=>by
  obtain⟨cs,eb,aO,aN⟩:=hv i aE;obtain⟨o,aL⟩:=aN.qO eb aO underlying69 0 0 _ rfl rfl rfl (by decide);obtain⟨u1,g1,im⟩:=aN.vR underlying69 1 1 3 _ rfl rfl rfl (by kernel_rfl) (by omega);obtain⟨m,rfl,hmr⟩:=im.reads.int64;have hm:=(aO 1 (by decide)).trans g1;refine⟨⟨o,m⟩,fun j u hu=> ?_,hmr⟩;match j,hu with
  |0,hu=>obtain rfl:=Option.some.inj hu;exact aL
  |1,hu=>obtain rfl:=Option.some.inj hu;exact hm
  |j+2,hu=>simp[Rm]at hu)
 refine⟨xs,⟨_,cap,by rw[aq],fun _=>⟨b,off,rfl,J,fun j x af i u hu=>(lq j x af).1 i u hu⟩⟩,by omega,fun x af=> ?_⟩;obtain⟨j,aB⟩:=List.getElem?_of_mem af;exact (lq j x aB).2
theorem akB {ba:List TypeId} {ds:List (DataW H)} (h:(DataW.weightsEach prog ba ds).all (·≤reachBytes)=true) {j:Nat} {t:TypeId} {d:DataW H} (bS:ba[j]?=some t) (av:ds[j]?=some d):DK t d:=by
 intro n aA;have:=List.all_eq_true.1 h n (DataW.weights_mem_each bS av n aA);have U:=reachBytes_lt;simp only[decide_eq_true_eq]at this;omega
theorem agf {F:FuncId} {fn:Func} {s:ChangeSpec} {os:Os} {laid:List (String×DataW Unit)} (started:os.Started) (ahk:prog.inits.idxOf? F=none) (z7:prog.funcs[F]?=some fn)
  (o3:s.vars=[]) (afq:fn.resultTypes=#[4])
  (afA:∀ds:List (DataW H),ds.length=fn.params.toList.length→s.fn H (ds++[])={results:=[.lit (.bool true)],args:=ds})
  (afp:fn.params.toList.all (fun t=>prog.readableRec t&&decide (t<prog.types.size))=true)
  (witness:∃(w:World) (tape:Tape) (i:Input),w.os=os∧(w.forCall tape i).Shaped Tryz.checked.prog∧i.vars=[]∧Input.okWide Tryz.checked.prog (w.forCall tape i) .any w.heap.size F i∧
   (OpenSpec.ofChange s).preRow enc Tryz.checked.prog fn [] false laid (w.forCall tape i).memory i.args∧({}:Assume).holds Tryz.checked.prog (lone (Frame.enter Tryz.checked.prog F i.args .normal) [] (w.forCall tape i)))
  (walk:∀(W:World) (base:Nat) (args:Array Value) (ds:List (DataW H)) (ps:List MemPlace),
   (∀(j:Nat) t v,fn.params[j]?=some t→args[j]?=some v→Value.okWide prog W .any base t v)→
   DataW.TrodAll enc prog W 0 (fun _=>true) true fn.params.toList args.toList ds ps→laidMetH prog laid W→(∀(j:Nat) t d,fn.params.toList[j]?=some t→ds[j]?=some d→DK t d)→W.ShapedOpen prog→Calls prog F args W (Jz W)) (py:Stop.Interp):
  ReturnsInHanded {} Tryz.checked os F .any ((OpenSpec.ofChange s).preRow enc prog fn [] false laid) (((OpenSpec.ofChange s).at py).post enc prog fn false true false false):=by
 refine returnsInHanded_of_row (C:=Tryz.checked) (s:=OpenSpec.ofChange s) own started ahk z7 witness ?_;intro W base args ds gs before ug eV _ _ Ee bL hSh _;have hW':=eV;obtain⟨p,q,aK,dZ,rfl,_,_⟩:=eV;have QD:(OpenSpec.ofChange s).vars=[]:=o3;rw[QD]at dZ;obtain⟨rfl,rfl⟩:=trodVars_none dZ;have Pk:DataW.TrodAll enc prog W 0 (fun _=>true) true fn.params.toList args.toList ds p:=aK;refine (walk W base args ds p ug Pk bL (fun j t d bS av=>akB Ee (j:=j) (by rw[List.getElem?_append_left (b8 bS).1];exact bS) (by rw[List.append_nil];exact av)) hSh).mono fun e N_ ⟨he,aa⟩=> ?_;subst he;have HN:=afA ds (ajS Pk).1;refine⟨_,rfl,ds,[],_,[],p,[],hW',?_,?_,?_,aa.frame _,fun h=>by cases h⟩
 ·show DataW.TrodAll _ _ _ _ _ _ _ _ (s.fn H (ds++[])).results _;rw[HN,afq];exact trodAll_mk1 (shut_bool akf true)
 ·show DataW.TrodAll _ _ _ _ _ _ _ _ (s.fn H (ds++[])).args _;rw[HN];exact ajR afp aa Pk
 ·show DataW.TrodVars _ _ _ _ s.vars (s.fn H (ds++[])).vars _;rw[HN,o3];rfl
end
end
def Ar (y:Int):Bool:=y.tmod 4==0&&(y.tmod 100 !=0||y.tmod 400==0)
theorem agB (y:Int) (h:0≤y):Ar y=(y% 4==0&&(y% 100 !=0||y% 400==0)):=by
 unfold Ar;rw[Int.tmod_eq_emod_of_nonneg h,Int.tmod_eq_emod_of_nonneg h,Int.tmod_eq_emod_of_nonneg h]
def rZ (y:Int):Int:=if Ar y then 1 else 0
theorem agC (y:Int) (h:0≤y):(rZ y=1∧y% 4=0∧(y% 100≠0∨y% 400=0))∨(rZ y=0∧¬(y% 4=0∧(y% 100≠0∨y% 400=0))):=by
 unfold rZ;rw[agB y h];by_cases ah:y% 4=0∧(y% 100≠0∨y% 400=0)
 ·left;refine⟨?_,ah⟩;rw[if_pos];simpa using ah
 ·right;refine⟨?_,ah⟩;rw[if_neg];simpa using ah
def Ay:List Int:=[31,28,31,30,31,30,31,31,30,31,30,31]
def j4 (y m:Int):Int:=if m<1∨12<m then 0 else if m=2∧Ar y=true then 29 else Ay[(m-1).toNat]?.getD 0
theorem ag2 {m:Int} (I:1≤m) (U:m≤12):m=1∨m=2∨m=3∨m=4∨m=5∨m=6∨m=7∨m=8∨m=9∨m=10∨m=11∨m=12:=by omega
theorem OS {y m:Int} (h:m<1∨12<m):j4 y m=0:=by rw[j4,if_pos h]
theorem OQ (y:Int):j4 y 2=28+rZ y:=by
 unfold j4 rZ
 cases aq:Ar y<;>simp[Ay]
theorem OR {y m:Int} (I:1≤m) (U:m≤12) (ae:m≠2):j4 y m=Ay[(m-1).toNat]?.getD 0:=by
 rw[j4,if_neg (by omega),if_neg (by omega)]
theorem OP (y m:Int) (I:1≤m) (U:m≤12):28≤j4 y m∧j4 y m≤31:=by
 by_cases ae:m=2
 ·subst ae;rw[OQ];unfold rZ;split<;>omega
 ·rw[OR I U ae];rcases ag2 I U with rfl|rfl|rfl|rfl|rfl|rfl|rfl|rfl|rfl|rfl|rfl|rfl<;>first|decide|exact absurd rfl ae
theorem GH (y m:Int):0≤j4 y m∧j4 y m≤31:=by
 by_cases h:m<1∨12<m
 ·rw[OS h];omega
 ·have:=OP y m (by omega) (by omega);omega
def gA (y:Int):Nat→Int
 |0=>0
 |k+1=>gA y k+j4 y (k+1)
theorem OH (y:Int) (k:Nat) (aa:k≤12):0≤gA y k∧gA y k≤31*k:=by
 induction k with
 |zero=>simp[gA]
 |succ k bH=>
  have:=bH (by omega);have:=GH y (k+1);rw[gA];omega
theorem OI (y : Int) (i j : Nat) (h : i ≤ j) : gA y i ≤ gA y j := by
  induction j with
  | zero => have : i = 0 := by omega
            subst this; exact Int.le_refl _
  | succ j bH =>
    by_cases e : i = j + 1
    · subst e; exact Int.le_refl _
    · have := bH (by omega)
      have := GH y (j + 1);rw [gA]; omega
theorem OG (y:Int):gA y 12=365+rZ y:=by
 have h:∀m:Int,1≤m→m≤12→m≠2→j4 y m=Ay[(m-1).toNat]?.getD 0:=fun m a b c=>OR a b c;have U:=OQ y;simp only[gA];rw[show ((0:Nat):Int)+1=1 from rfl,show ((1:Nat):Int)+1=2 from rfl,show ((2:Nat):Int)+1=3 from rfl,show ((3:Nat):Int)+1=4 from rfl,
  show ((4:Nat):Int)+1=5 from rfl,show ((5:Nat):Int)+1=6 from rfl,show ((6:Nat):Int)+1=7 from rfl,show ((7:Nat):Int)+1=8 from rfl,
  show ((8:Nat):Int)+1=9 from rfl,show ((9:Nat):Int)+1=10 from rfl,show ((10:Nat):Int)+1=11 from rfl,show ((11:Nat):Int)+1=12 from rfl,
  h 1 (by omega) (by omega) (by omega),U,h 3 (by omega) (by omega) (by omega),h 4 (by omega) (by omega) (by omega),h 5 (by omega) (by omega) (by omega),h 6 (by omega) (by omega) (by omega),
  h 7 (by omega) (by omega) (by omega),h 8 (by omega) (by omega) (by omega),h 9 (by omega) (by omega) (by omega),h 10 (by omega) (by omega) (by omega),h 11 (by omega) (by omega) (by omega),h 12 (by omega) (by omega) (by omega)]
 simp[Ay];omega
def CA (y:Int):Int:=y/4-y/100+y/400
def hb (y:Int):Int:=(y-1900)*365+CA (y-1)-CA 1899
theorem abr:hb 1900=0:=by decide
theorem Fw (y:Int) (h:0≤y):hb (y+1)=hb y+365+rZ y:=by
 unfold hb CA;rcases agC y h with⟨e,I,U⟩|⟨e,I⟩<;>rw[e]<;>omega
theorem Sp:hb 2200=109573:=by decide
theorem Q5 (y:Int):0≤rZ y∧rZ y≤1:=by unfold rZ;split<;>omega
theorem MK (y:Int) (I:1900≤y) (U:y≤2200):365*(y-1900)≤hb y∧hb y≤366*(y-1900):=by
 obtain⟨k,rfl⟩:∃k:Nat,y=1900+k:=⟨(y-1900).toNat,by omega⟩;clear I;induction k with
 |zero=>simp[abr]
 |succ k bH=>
  have:=bH (by omega);have e:=Fw (1900+k) (by omega);have:=Q5 (1900+k);rw[show (1900:Int)+((k+1:Nat):Int)=1900+k+1 from by omega,e];omega
theorem ML (a b:Int) (I:1900≤a) (U:a<b):hb a+365≤hb b:=by
 obtain⟨k,rfl⟩:∃k:Nat,b=a+1+k:=⟨(b-a-1).toNat,by omega⟩;clear U;induction k with
 |zero=>
  have e:=Fw a (by omega);have:=Q5 a;rw[show a+1+((0:Nat):Int)=a+1 from by omega,e];omega
 |succ k bH=>
  have e:=Fw (a+1+k) (by omega);have:=Q5 (a+1+k);rw[show a+1+((k+1:Nat):Int)=a+1+k+1 from by omega,e];omega
def pe (y m d:Int):Bool:=decide (1900≤y)&&(decide (y≤2199)&&(decide (1≤m)&&(decide (m≤12)&&(decide (1≤d)&&decide (d≤j4 y m)))))
theorem xy {y m d:Int}:pe y m d=true↔1900≤y∧y≤2199∧1≤m∧m≤12∧1≤d∧d≤j4 y m:=by simp[pe]
def nS (y m d:Int):Int:=hb y+gA y (m-1).toNat+d-1
def wS (y m d:Int):Int×Int:=if pe y m d then (nS y m d,0)else (0,3)
theorem ET {y m d:Int} (h:pe y m d=true):hb y≤nS y m d∧nS y m d<hb (y+1):=by
 obtain⟨I,U,ae,aJ,bp,eJ⟩:=xy.1 h;have a:=OH y (m-1).toNat (by omega);have b:=OI y ((m-1).toNat+1) 12 (by omega);rw[gA,show (((m-1).toNat:Nat):Int)+1=m from by omega,OG]at b;rw[Fw y (by omega)];unfold nS;omega
theorem ad6 {y m d:Int} (h:pe y m d=true):0≤nS y m d∧nS y m d≤109572:=by
 have dp:=xy.1 h;have a:=ET h;have b:=MK y (by omega) (by omega);have c:hb (y+1)≤hb 2200:=by
  by_cases e:y+1=2200
  ·rw[e];exact Int.le_refl _
  ·have:=ML (y+1) 2200 (by omega) (by omega);omega
 rw[Sp]at c;omega
theorem ad7 {y m d y0 k2 eR:Int} (h:pe y m d=true) (dp:pe y0 k2 eR=true) (e:nS y m d=nS y0 k2 eR):y=y0∧m=k2∧d=eR:=by
 have i1:=ET h;have i2:=ET dp;obtain⟨cE,a2,a3,a4,a5,jE⟩:=xy.1 h;obtain⟨bY,bc,eh,dy,c9,eE⟩:=xy.1 dp;have db:y=y0:=by
  rcases Int.lt_trichotomy y y0 with aq|he|ai
  ·by_cases a6:y+1=y0
   ·subst a6;omega
   ·have:=ML (y+1) y0 (by omega) (by omega);omega
  ·exact he
  ·by_cases a6:y0+1=y
   ·subst a6;omega
   ·have:=ML (y0+1) y (by omega) (by omega);omega
 subst db;have hm:m=k2:=by
  unfold nS at e;have aC:gA y ((m-1).toNat+1)=gA y (m-1).toNat+j4 y m:=by rw[gA,show (((m-1).toNat:Nat):Int)+1=m from by omega]
  have aM:gA y ((k2- 1).toNat+1)=gA y (k2- 1).toNat+j4 y k2:=by rw[gA,show (((k2- 1).toNat:Nat):Int)+1=k2 from by omega]
  rcases Int.lt_trichotomy m k2 with aq|he|ai
  ·have:=OI y ((m-1).toNat+1) (k2- 1).toNat (by omega);omega
  ·exact he
  ·have:=OI y ((k2- 1).toNat+1) (m-1).toNat (by omega);omega
 subst hm;unfold nS at e;exact⟨rfl,rfl,by omega⟩
noncomputable def dU (n:Int):Int×Int×Int:=
 open Classical in if h:∃p:Int×Int×Int,pe p.1 p.2.1 p.2.2=true∧nS p.1 p.2.1 p.2.2=n then Classical.choose h else (0,0,0)
theorem aa4 {n y m d:Int} (h:pe y m d=true) (e:nS y m d=n):dU n=(y,m,d):=by
 unfold dU;have af:∃p:Int×Int×Int,pe p.1 p.2.1 p.2.2=true∧nS p.1 p.2.1 p.2.2=n:=⟨(y,m,d),h,e⟩;rw[dif_pos af];have ah:=Classical.choose_spec af;obtain⟨az,a6,b7⟩:=ad7 ah.1 h (ah.2.trans e.symm);exact Prod.ext az (Prod.ext a6 b7)
theorem ajE {n:Int} (h:n<0∨109572<n):dU n=(0,0,0):=by
 unfold dU;rw[dif_neg];rintro⟨p,hp,e⟩;have:=ad6 hp;omega
theorem akF (n:Int) (aj:0≤n) (I:n≤109572):∃y,1900≤y∧y≤2199∧hb y≤n∧n<hb (y+1):=by
 have key:∀k:Nat,k≤300→n<hb (1900+k)→∃y,1900≤y∧y≤2199∧hb y≤n∧n<hb (y+1):=by
  intro k;induction k with
  |zero=>intro _ h;rw[show (1900:Int)+((0:Nat):Int)=1900 from rfl,abr]at h;omega
  |succ k bH=>
   intro aa h;rw[show (1900:Int)+((k+1:Nat):Int)=1900+k+1 from by omega]at h;rcases Int.lt_or_le n (hb (1900+k))with aq|aq
   ·exact bH (by omega) aq
   ·exact⟨1900+k,by omega,by omega,aq,h⟩
 refine key 300 (Nat.le_refl _) ?_;rw[show (1900:Int)+((300:Nat):Int)=2200 from rfl,Sp];omega
theorem ag3 (y r:Int) (aj:0≤r) (I:r<365+rZ y):∃k:Nat,k<12∧gA y k≤r∧r<gA y (k+1):=by
 have key:∀k:Nat,k≤12→r<gA y k→∃k:Nat,k<12∧gA y k≤r∧r<gA y (k+1):=by
  intro k;induction k with
  |zero=>intro _ h;simp[gA]at h;omega
  |succ k bH=>
   intro aa h;rcases Int.lt_or_le r (gA y k)with aq|aq
   ·exact bH (by omega) aq
   ·exact⟨k,by omega,aq,h⟩
 exact key 12 (Nat.le_refl _) (by rw[OG];exact I)
theorem Sf (n:Int) (aj:0≤n) (I:n≤109572):pe (dU n).1 (dU n).2.1 (dU n).2.2=true∧nS (dU n).1 (dU n).2.1 (dU n).2.2=n:=by
 obtain⟨y,ee,fW,mS,td⟩:=akF n aj I;rw[Fw y (by omega)]at td;obtain⟨k,ak,a',bw⟩:=ag3 y (n-hb y) (by omega) (by omega);rw[gA]at bw;have J:pe y (k+1) (n-hb y-gA y k+1)=true:=xy.2 ⟨ee,fW,by omega,by omega,by omega,by omega⟩;have he:nS y (k+1) (n-hb y-gA y k+1)=n:=by
  unfold nS;rw[show ((k:Int)+1-1).toNat=k from by omega];omega
 rw[aa4 J he];exact⟨J,he⟩
def iB (d:Int):Bool:=decide (0≤d)&&decide (d≤109572)
theorem Lu {d:Int}:iB d=true↔0≤d∧d≤109572:=by simp[iB]
theorem af5 {d:Int}:iB d=false↔d<0∨109572<d:=by simp[iB];omega
noncomputable def ju (a n:Int):Int:=((dU a).1-1900)*12+(dU a).2.1-1+n
noncomputable def Gt (a n:Int):Int×Int:=wS (1900+ju a n/12) (ju a n% 12+1) (min (dU a).2.2 (j4 (1900+ju a n/12) (ju a n% 12+1)))
noncomputable def x0 (a n:Int):Bool:=iB a&&(decide (-3600≤n)&&(decide (n≤3600)&&(decide (0≤ju a n)&&decide (ju a n≤3599))))
noncomputable def nf (a n:Int):Int×Int:=if x0 a n then Gt a n else (0,3)
theorem JT {a n:Int}:x0 a n=true↔iB a=true∧ -3600≤n∧n≤3600∧0≤ju a n∧ju a n≤3599:=by simp[x0]
theorem Ob {a n:Int} (h:x0 a n=true):nf a n=Gt a n:=by rw[nf,if_pos h]
theorem aca {a n:Int} (h:x0 a n=false):nf a n=(0,3):=by rw[nf,h];rfl
theorem AN {a:Int} (h:iB a=true):1900≤(dU a).1∧(dU a).1≤2199∧1≤(dU a).2.1∧(dU a).2.1≤12∧1≤(dU a).2.2∧(dU a).2.2≤j4 (dU a).1 (dU a).2.1:=by
 have dp:=Lu.1 h;exact xy.1 (Sf a dp.1 dp.2).1
theorem aeB {y m d:Int} (I:1900≤y) (U:y≤2199) (ae:1≤m) (aJ:m≤12) (bp:1≤d):pe y m (min d (j4 y m))=true:=by
 have:=OP y m ae aJ;exact xy.2 ⟨I,U,ae,aJ,by omega,by omega⟩
theorem VH {y m d:Int} (h:pe y m d=true):wS y m d=(nS y m d,0):=by rw[wS,if_pos h]
theorem acv {a j:Int} (h:iB a=true) (aj:0≤j) (I:(dU a).1+j≤2199):
  (nf a (12*j)).2=0∧hb ((dU a).1+j)≤(nf a (12*j)).1∧(nf a (12*j)).1<hb ((dU a).1+j+1):=by
 have J:=AN h;have fF:x0 a (12*j)=true:=JT.2 ⟨h,by omega,by omega,by unfold ju;omega,by unfold ju;omega⟩;have hm:ju a (12*j)=12*((dU a).1+j-1900)+((dU a).2.1-1):=by unfold ju;omega
 have az:1900+ju a (12*j)/12=(dU a).1+j:=by omega
 have a6:ju a (12*j)% 12+1=(dU a).2.1:=by omega
 have bO:=aeB (y:=(dU a).1+j) (m:=(dU a).2.1) (by omega) I J.2.2.1 J.2.2.2.1 J.2.2.2.2.1;rw[Ob fF,Gt,az,a6,VH bO];exact⟨rfl,(ET bO).1,(ET bO).2⟩
theorem acw {a:Int} (h:iB a=true):nf a 0=(a,0):=by
 have J:=AN h;have dp:=Lu.1 h;have ax:=Sf a dp.1 dp.2;have hm:ju a 0=12*((dU a).1-1900)+((dU a).2.1-1):=by unfold ju;omega
 have fF:x0 a 0=true:=JT.2 ⟨h,by omega,by omega,by omega,by omega⟩;have az:1900+ju a 0/12=(dU a).1:=by omega
 have a6:ju a 0% 12+1=(dU a).2.1:=by omega
 rw[Ob fF,Gt,az,a6,Int.min_eq_left J.2.2.2.2.2,VH ax.1,ax.2]
theorem abp {a:Int} (h:iB a=true):hb (dU a).1≤a∧a<hb ((dU a).1+1):=by
 have dp:=Lu.1 h;have ax:=Sf a dp.1 dp.2;have:=ET ax.1;rw[ax.2]at this;exact this
theorem abq {a b:Int} (h:iB a=true) (dp:iB b=true) (lk:a≤b):(dU a).1≤(dU b).1:=by
 have I:=abp h;have U:=abp dp;have J:=AN dp;have aZ:=AN h;rcases Int.lt_or_le (dU b).1 (dU a).1 with aq|aq
 ·exfalso;by_cases e:(dU b).1+1=(dU a).1
  ·rw[←e]at I;omega
  ·have:=ML ((dU b).1+1) (dU a).1 (by omega) (by omega);omega
 ·exact aq
def AR (a b:Int):Bool:=iB a&&(iB b&&decide (a≤b))
theorem abo {a b:Int}:AR a b=true↔iB a=true∧iB b=true∧a≤b:=by simp[AR]
noncomputable def y1 (a b:Int):Int:=
 if AR a b then (if (nf a (12*((dU b).1-(dU a).1))).1≤b then (dU b).1-(dU a).1 else (dU b).1-(dU a).1-1)else 0
theorem akD {a b:Int} (h:AR a b=false):y1 a b=0:=by rw[y1,h];rfl
theorem akE {a b:Int} (h:AR a b=true):
  (y1 a b=(dU b).1-(dU a).1∧(nf a (12*((dU b).1-(dU a).1))).1≤b)∨(y1 a b=(dU b).1-(dU a).1-1∧b<(nf a (12*((dU b).1-(dU a).1))).1∧(dU a).1<(dU b).1):=by
 obtain⟨I,U,ae⟩:=abo.1 h;have db:=abq I U ae;rw[y1,if_pos h];by_cases ah:(nf a (12*((dU b).1-(dU a).1))).1≤b
 ·rw[if_pos ah];exact .inl ⟨rfl,ah⟩
 ·rw[if_neg ah];refine .inr ⟨rfl,by omega,?_⟩;rcases Int.lt_or_eq_of_le db with aq|he
  ·exact aq
  ·exfalso;rw[he,Int.sub_self,Int.mul_zero,acw I]at ah;exact ah ae
structure mo where
 ag:ByteArray
 mem:List ByteArray
structure kT where
 dH:Int
 dB:Int
 ei:Int
 aE:Int
 n:Int
structure jm where
 ag:ByteArray
 d_:Int
 eo:Int
 cy:Int
 bE:Int
 rows:List kT
structure lE where
 ag:ByteArray
 k:Int
 e:Int
structure bf where
 ag:ByteArray
 bK:Int
 bD:Int
 fa:Int
 dH:Int
 dB:Int
 g:List cz
 v:List cz
 src:ByteArray
structure bP where
 ag:ByteArray
 ms:Int
 ins:List lE
 ds:List lE
 rs:List bf
structure cZ where
 bm:List mo
 tb:List jm
 sc:List bP
end Go.Proofs.YtobpgndkciofhaaGreatDoor
