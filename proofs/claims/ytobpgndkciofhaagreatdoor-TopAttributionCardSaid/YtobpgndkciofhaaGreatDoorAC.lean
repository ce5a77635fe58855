import Derived.Test.YtobpgndkciofhaaGreatDoorAA
import Derived.Test.YtobpgndkciofhaaGreatDoorAB
import Derived.Test.YtobpgndkciofhaaGreatDoorO
set_option linter.all false
namespace Go.Proofs.YtobpgndkciofhaaGreatDoor
open Go.RowKit Go.Proofs.Tryz
open Go.Lib (hid)
set_option maxRecDepth 100000
set_option maxHeartbeats 16000000
structure tH (w wr:World) (P S hB D jY B:Nat) (dt:Int) (bo bW b4 bv:Value) (sc:Array Value) (uC:Value) (o:List Int) (c7:Nat) (ds:List bg) (dF:List Int):Prop where
 two:Two w wr none P
 gG:ao wr P 98 #[dt,bo,.slice (some ⟨D,0,none⟩) c7 c7,bW,b4,bv]
 n7:ao wr S 64 sc
 gn:ao wr hB 46 #[(),(),(),()]
 wP:ao wr D 44 (sd ds)
 fz:ao wr jY 3 (rW dF)
 mN:cn wr B uC o
 dl:ds.length=c7
 Fb:dF.length=c7
 dJ:P<w.heap.size
 bj:w.heap.size≤S
 aX:w.heap.size≤hB
 b':w.heap.size≤D
 aw:w.heap.size≤jY
 rD:D≠jY
 Fg:S≠D
 vZ:S≠jY
 wR:hB≠D
 qA:hB≠jY
 J0:D<B
 aY:jY<B
theorem ako {ds:List bg} {d:Nat} (h:d<ds.length) (x:bg):(((sd ds).setIfInBounds (d*3) x.k).setIfInBounds (d*3+1) x.e).setIfInBounds (d*3+2) x.n=sd (ds.set d x):=by
 have I:ds=ds.take d++ds[d]::ds.drop (d+1):=by rw[←List.drop_eq_getElem_cons h,List.take_append_drop]
 have U:(ds.take d).length=d:=by rw[List.length_take];omega
 have ae:=abg (ds.take d) (ds.drop (d+1)) ds[d] x;rw[←I,U]at ae;rw[ae];congr 1;rw[List.set_eq_take_append_cons_drop,if_pos h]
section
variable {w wr uH:World} {P S hB D jY B:Nat} {dt:Int} {bo bW b4 bv:Value} {sc:Array Value} {uC:Value} {o:List Int} {c7:Nat} {ds:List bg} {dF:List Int}
theorem tH.keep (h:tH w wr P S hB D jY B dt bo bW b4 bv sc uC o c7 ds dF) (aa:Kept wr uH):tH w uH P S hB D jY B dt bo bW b4 bv sc uC o c7 ds dF:=
 ⟨h.two.trans (Two.iZ aa) (.inl rfl),h.gG.kept aa,h.n7.kept aa,h.gn.kept aa,h.wP.kept aa,h.fz.kept aa,h.mN.kH aa,h.dl,h.Fb,h.dJ,h.bj,h.aX,h.b',h.aw,h.rD,h.Fg,h.vZ,h.wR,h.qA,h.J0,h.aY⟩
theorem Two.lV {w w':World} {a:Option Nat} {r b:Nat} (h:Two w w' a r) (J:w.heap.size≤b) (i:Nat) (u:Value):Two w (w'.setCell ⟨b,i,none⟩ u) a r:=
 ⟨h.os,h.tape,h.output,by simp;exact h.size,fun k aa aH bQ=>(Below.heap_setCell w' ⟨b,i,none⟩ u k (by simp only;omega)).trans (h.block k aa aH bQ)⟩
theorem tH.aiW (h:tH w wr P S hB D jY B dt bo bW b4 bv sc uC o c7 ds dF) {d:Nat} (av:d<c7) (x:bg):
  tH w (((wr.setCell ⟨D,d*3,none⟩ x.k).setCell ⟨D,d*3+1,none⟩ x.e).setCell ⟨D,d*3+2,none⟩ x.n) P S hB D jY B dt bo bW b4 bv sc uC o c7 (ds.set d x) dF:=by
 have yi:P≠D:=by have:=h.dJ;have:=h.b';omega
 have aL:uC.ownBlock≠some D:=fun e=>by have:=s6 h.mN e;have:=h.J0;omega
 refine⟨((h.two.lV h.b' _ _).lV h.b' _ _).lV h.b' _ _,?_,?_,?_,?_,?_,?_,by rw[List.length_set];exact h.dl,h.Fb,h.dJ,h.bj,h.aX,h.b',h.aw,h.rD,h.Fg,h.vZ,h.wR,h.qA,h.J0,h.aY⟩
 ·exact ((h.gG.far (p:=⟨D,_,none⟩) yi _).far (p:=⟨D,_,none⟩) yi _).far (p:=⟨D,_,none⟩) yi _
 ·exact ((h.n7.far (p:=⟨D,_,none⟩) h.Fg _).far (p:=⟨D,_,none⟩) h.Fg _).far (p:=⟨D,_,none⟩) h.Fg _
 ·exact ((h.gn.far (p:=⟨D,_,none⟩) h.wR _).far (p:=⟨D,_,none⟩) h.wR _).far (p:=⟨D,_,none⟩) h.wR _
 ·have:=((h.wP.aP (d*3) x.k).aP (d*3+1) x.e).aP (d*3+2) x.n;rwa [ako (by rw[h.dl];exact av)]at this
 ·exact ((h.fz.far (p:=⟨D,_,none⟩) h.rD.symm _).far (p:=⟨D,_,none⟩) h.rD.symm _).far (p:=⟨D,_,none⟩) h.rD.symm _
 ·exact ((h.mN.vY (p:=⟨D,_,none⟩) aL _).vY (p:=⟨D,_,none⟩) aL _).vY (p:=⟨D,_,none⟩) aL _
theorem tH.aiX (h:tH w wr P S hB D jY B dt bo bW b4 bv sc uC o c7 ds dF) (d:Nat) (x:Int):tH w (wr.setCell ⟨jY,d,none⟩ x) P S hB D jY B dt bo bW b4 bv sc uC o c7 ds (dF.set d x):=by
 have yi:P≠jY:=by have:=h.dJ;have:=h.aw;omega
 have aL:uC.ownBlock≠some jY:=fun e=>by have:=s6 h.mN e;have:=h.aY;omega
 refine⟨h.two.lV h.aw _ _,h.gG.far (p:=⟨jY,d,none⟩) yi _,h.n7.far (p:=⟨jY,d,none⟩) h.vZ _,h.gn.far (p:=⟨jY,d,none⟩) h.qA _,h.wP.far (p:=⟨jY,d,none⟩) h.rD _,?_,h.mN.vY (p:=⟨jY,d,none⟩) aL _,h.dl,by rw[List.length_set];exact h.Fb,h.dJ,h.bj,h.aX,h.b',h.aw,h.rD,h.Fg,h.vZ,h.wR,h.qA,h.J0,h.aY⟩;have:=h.fz.aP d x;rwa [EP]at this
end
def StP (w:World) (P:Nat) (F:World→Prop):Prop:=∀w',Two w w' none P→F w'
def Kx (P:Nat) (dt:Int) (bo bW b4 bv:Value) (R:List bg×Int) (c7:Nat) (w:World) (e:Ending) (w':World):Prop:=
 ∃(u:Value) (a b c:Int),e= .returned (.tuple #[u,.agg #[R.2,a,.int .i64 b,c]])∧Two w w' none P∧
  (R.2=0→∃b6 dF,ao w' P 98 #[dt,bo,b6,bW,b4,bv]∧ff w' b6 R.1∧fC w' u dF∧dF.length=c7∧(∀b,b6.ownBlock=some b→w.heap.size≤b∧b<w'.heap.size)∧∀b,u.ownBlock=some b→w.heap.size≤b)
theorem aiQ {Lf:gm} {E:dC} {rs:List bf} {d:Int} (aj:(eL Lf E rs d).2.1=0):(eL Lf E rs d).1= -1∨(eL Lf E rs d).1= -2∨∃k:Nat,(eL Lf E rs d).1=k∧k<rs.length:=by
 have R:=xn (bV d E.dt) rs;unfold eL at aj⊢;by_cases g0:(fG Lf E rs (c8 (bV d E.dt) rs).1 []).2.1≠0
 ·rw[if_pos g0]at aj;exact absurd aj g0
 rw[if_neg g0];have rL:=RS (par:=(c8 (bV d E.dt) rs).2) (pri:=h6 rs (c8 (bV d E.dt) rs).1) (apl:=(fG Lf E rs (c8 (bV d E.dt) rs).1 []).1);have aD:=Md (par:=(c8 (bV d E.dt) rs).2) (pri:=h6 rs (c8 (bV d E.dt) rs).1) (apl:=(fG Lf E rs (c8 (bV d E.dt) rs).1 []).1);generalize kK (c8 (bV d E.dt) rs).2 (h6 rs (c8 (bV d E.dt) rs).1) (fG Lf E rs (c8 (bV d E.dt) rs).1 []).1=q at*;by_cases g1:q<0
 ·rw[if_pos g1];simp only;omega
 ·rw[if_neg g1];have au:q.toNat<(c8 (bV d E.dt) rs).1.length:=by
   rw[R.oB,←R.pl];have:=aD (by omega);omega
  refine .inr (.inr ⟨_,rfl,?_⟩);rw[a8 au,Option.getD_some];exact (R.uu _ _ (a8 au)).1
theorem aiH {Lf:gm} {E:dC} {rs:List bf} {nb:List Bool} {d:Int} {r:List Int} {ds:List bg} (h:ml nb d=false):iL Lf E rs nb (d::r) ds=iL Lf E rs nb r ds:=by rw[iL,if_pos h]
theorem aiF {Lf:gm} {E:dC} {rs:List bf} {nb:List Bool} {d:Int} {r:List Int} {ds:List bg} {c:Int} (h:ml nb d=true) (ah:(hH Lf {E with ds:=ds} rs d).2.2.1=c) (aj:c≠0):iL Lf E rs nb (d::r) ds=(ds,c):=by
 rw[iL,if_neg (by rw[h];simp),ah,if_pos aj]
theorem aiG {Lf:gm} {E:dC} {rs:List bf} {nb:List Bool} {d:Int} {r:List Int} {ds:List bg} (h:ml nb d=true) (ah:(hH Lf {E with ds:=ds} rs d).2.2.1=0):iL Lf E rs nb (d::r) ds=iL Lf E rs nb r (ds.set d.toNat (hH Lf {E with ds:=ds} rs d).1):=by
 rw[iL,if_neg (by rw[h];simp),if_neg (by omega)]
theorem ajc {Lf:gm} {E:dC} {rs:List bf} {d:Int} (h:(eL Lf E rs d).2.1≠0):(hH Lf E rs d).2.2.1=(eL Lf E rs d).2.1:=by unfold hH;rw[if_pos h]
theorem aja {Lf:gm} {E:dC} {rs:List bf} {d:Int} (h:(eL Lf E rs d).2.1=0) (I:(eL Lf E rs d).1= -1):(hH Lf E rs d).2.2.1=10:=by unfold hH;rw[if_neg (by omega),if_pos I]
theorem ajd {Lf:gm} {E:dC} {rs:List bf} {d:Int} (h:(eL Lf E rs d).2.1=0) (I:(eL Lf E rs d).1= -2):(hH Lf E rs d).2.2.1=11:=by unfold hH;rw[if_neg (by omega),if_neg (by omega),if_pos I]
theorem aje {Lf:gm} {E:dC} {rs:List bf} {d:Int} {k:Nat} {r:bf} (h:(eL Lf E rs d).2.1=0) (I:(eL Lf E rs d).1=k) (aH:rs[k]?=some r):(hH Lf E rs d).2.2.1=(iy Lf E r.v).2∧((iy Lf E r.v).2=0→(hH Lf E rs d).1=(iy Lf E r.v).1):=by
 unfold hH;rw[if_neg (by omega),if_neg (by omega),if_neg (by omega),I,Int.toNat_natCast,aH,Option.getD_some];by_cases e:(iy Lf E r.v).2≠0
 ·rw[if_pos e];exact⟨rfl,fun h=>absurd h e⟩
 ·rw[if_neg e];exact⟨(Decidable.not_not.1 e).symm,fun _=>rfl⟩
def l3 (w w':World) (ok:Nat→Prop):Prop:=∀b,b<w.heap.size→ok b→w'.heap[b]?=w.heap[b]?
theorem l3.lt {w w':World} {ok:Nat→Prop} (h:l3 w w' ok) {b:Nat} (J:b<w.heap.size) (aL:ok b):b<w'.heap.size:=by
 have:=h b J aL;rw[Array.getElem?_eq_getElem J]at this;exact (Array.getElem?_eq_some_iff.1 this).1
theorem gV.stays {α:Type} {f:α→List Value} {k:Nat} {w w':World} {v:Value} {xs:List α} {ok:Nat→Prop} (h:gV w f k v xs) (ax:l3 w w' ok) (aL:∀b,v.ownBlock=some b→ok b):gV w' f k v xs:=by
 obtain⟨A,cap,rfl,af⟩:=h;refine⟨A,cap,rfl,fun hp=> ?_⟩;obtain⟨b,off,rfl,J,ah⟩:=af hp;refine⟨b,off,rfl,ax.lt J (aL b rfl),fun j x aB i u hu=> ?_⟩;have:=ah j x aB i u hu;unfold World.cell? at this⊢;simp only at this⊢;rw[ax b J (aL b rfl)];exact this
theorem vX {w w':World} {B:Nat} {e:TypeId} {k n:Nat} {v:Value} {xs:List Value} {ok:Nat→Prop} (h:w.ownsRow B e k v n xs) (ax:l3 w w' ok) (aL:∀b,v.ownBlock=some b→ok b):w'.ownsRow B e k v n xs:=by
 refine⟨h.1,?_⟩;rcases h.2 with U|⟨g,cap,cur,rfl,J,ai,ae⟩
 ·exact .inl U
 ·exact .inr ⟨g,cap,cur,rfl,J,(ax g (Array.getElem?_eq_some_iff.1 ai).1 (aL g rfl)).trans ai,ae⟩
theorem x2 {w w':World} {g:Nat} {t:TypeId} {cs:Array Value} {ok:Nat→Prop} (h:ao w g t cs) (ax:l3 w w' ok) (aL:ok g):ao w' g t cs:=(ax g h.lt aL).trans h
def AP (u:Value):List Value:=[u]
theorem aj4 (u:Value):(AP u).length=1:=rfl
def wD (B:Nat) (v bA:Value) (acc:List (List bg)) (w:World):Prop:=
 ∃us:List Value,us.length=acc.length∧c3 w B 31 AP 1 v us∧∀(i:Nat) u x,us[i]?=some u→acc[i]?=some x→ff w u x∧x.length≤1000∧∀b,u.ownBlock=some b→B≤b∧b<w.heap.size∧v.ownBlock≠some b∧bA.ownBlock≠some b
theorem wD.stays {B:Nat} {v bA:Value} {acc:List (List bg)} {w w':World} {ok:Nat→Prop} (h:wD B v bA acc w) (ax:l3 w w' ok) (aL:∀b,B≤b→ok b):wD B v bA acc w':=by
 obtain⟨us,I,U,ae⟩:=h;refine⟨us,I,vX U ax (fun b J=>aL b (World.ownsRow.lt U b J).1),fun i u x hu af=> ?_⟩;obtain⟨g1,g2,g3⟩:=ae i u x hu af;exact⟨g1.stays ax (fun b J=>aL b (g3 b J).1),g2,fun b J=>⟨(g3 b J).1,ax.lt (g3 b J).2.1 (aL b (g3 b J).1),(g3 b J).2.2⟩⟩
theorem wD.ag0 {B:Nat} {v bA:Value} {acc:List (List bg)} {w:World} (h:wD B v bA acc w):ld w v acc:=by
 obtain⟨us,I,U,ae⟩:=h;obtain⟨A,cap,rfl,af⟩:=c3.yL aj4 U;rw[I]at af⊢;by_cases aq:acc.length≤9223372036854775807
 ·refine⟨A,cap,rfl,aq,fun hp=> ?_⟩;obtain⟨b,off,rfl,J,ah⟩:=af hp;refine⟨b,off,rfl,J,fun j l aB=> ?_⟩;have Xy:j<us.length:=by rw[I];exact (b8 aB).1
  obtain⟨g1,g2,-⟩:=ae j _ l (a8 Xy) aB;have:=ah j _ (a8 Xy) 0 _ rfl;rw[Nat.mul_one,Nat.add_zero]at this;exact⟨by omega,_,this,g1⟩
 ·exfalso;rcases U.2 with⟨-,aA⟩|⟨g,ky,cur,ay,-,-,g1,g2,-⟩
  ·omega
  ·unfold maxLen at g2;omega
theorem ag7 (B:Nat) (w:World):wD B aR aR [] w:=⟨[],rfl,c3.nil _ _ _,fun i u x h=>by cases h⟩
structure tI (W:World) (E R B:Nat) (dt:Int) (bo b4 bv bW bA:Value) (acc:List (List bg)) (wr:World):Prop where
 two:Two W wr (some R) E
 gn:ao wr E 98 #[dt,bo,aR,bW,b4,bv]
 fz:ao wr R 95 #[aR,aR,bA]
 yB:wD B bW bA acc wr
 ro:∃xs,wr.ownsRow B 136 2 bA acc.length xs
 ap:∀g,bW.ownBlock=some g→bA.ownBlock≠some g
 aX:E<B
 aw:R<B
 qA:E≠R
theorem Lv {w w':World} (h:Kept w w') (ok:Nat→Prop):l3 w w' ok:=fun b J _=>h.block b J
theorem Two.agb {W wr w':World} {R E:Nat} (h:Two W wr (some R) E) (aa:Kept wr w'):Two W w' (some R) E:=
 ⟨aa.os.trans h.os,aa.tape.trans h.tape,aa.output.trans h.output,Nat.le_trans h.size aa.size,fun k I U ae=>(aa.block k (bd I h.size)).trans (h.block k I U ae)⟩
section
variable {W:World} {E R B:Nat} {dt:Int} {bo b4 bv bW bA:Value} {acc:List (List bg)} {wr w':World}
theorem tI.keep (h:tI W E R B dt bo b4 bv bW bA acc wr) (aa:Kept wr w'):tI W E R B dt bo b4 bv bW bA acc w':=by
 obtain⟨xs,af⟩:=h.ro;exact⟨h.two.agb aa,h.gn.kept aa,h.fz.kept aa,h.yB.stays (Lv aa fun _=>True) (fun _ _=>trivial),⟨xs,vX af (Lv aa fun _=>True) (fun _ _=>trivial)⟩,h.ap,h.aX,h.aw,h.qA⟩
structure Gd (W:World) (E R B:Nat) (dt:Int) (bo b4 bv bW bA:Value) (acc:List (List bg)) (n:Nat) (wr:World):Prop where
 two:Two W wr (some R) E
 gn:ao wr E 98 #[dt,bo,aR,bW,b4,bv]
 fz:ao wr R 95 #[aR,aR,bA]
 yB:wD B bW bA acc wr
 ro:∃xs,wr.ownsRow B 136 2 bA n xs
 ap:∀g,bW.ownBlock=some g→bA.ownBlock≠some g
 aX:E<B
 aw:R<B
 qA:E≠R
theorem tI.Od (h:tI W E R B dt bo b4 bv bW bA acc wr) (aU:W.heap.size≤B) {u:Value} {x:List bg} (hu:ff wr u x) (aq:x.length≤1000) (bO:∀b,u.ownBlock=some b→B≤b∧b<wr.heap.size∧bW.ownBlock≠some b∧bA.ownBlock≠some b)
  {us:List Value} (Aj:us.length=acc.length) (pS:∀(i:Nat) u x,us[i]?=some u→acc[i]?=some x→ff wr u x∧x.length≤1000∧∀b,u.ownBlock=some b→B≤b∧b<wr.heap.size∧bW.ownBlock≠some b∧bA.ownBlock≠some b)
  {o:Obj} {v':Value} (I:w'.ownsRow B 31 1 v' (us.length+1) (us.flatMap AP++AP u)) (U:(wr.alloc o).grownBy w' bW.ownBlock) (ae:v'.ownBlock=bW.ownBlock∨v'.ownBlock=some (wr.alloc o).heap.size):
  Gd W E R B dt bo b4 bv v' bA (acc++[x]) acc.length (w'.setCell ⟨E,3,none⟩ v'):=by
 have Er:∀g,bW.ownBlock=some g→B≤g:=fun g ai=>by
  obtain⟨MB,_,Hs,-⟩:=h.yB;exact (World.ownsRow.lt Hs g ai).1
 have df:l3 wr w' (fun b=>bW.ownBlock≠some b):=fun b J aL=>(U.block b (by simp;omega) (fun e=>aL e.symm)).trans (Below.heap_alloc wr o b J);have ue:l3 wr (w'.setCell ⟨E,3,none⟩ v') (fun b=>bW.ownBlock≠some b∧b≠E):=fun b J aL=>(Below.heap_setCell w' ⟨E,3,none⟩ v' b aL.2).trans (df b J aL.1);have ay:∀b,b<wr.heap.size→bW.ownBlock≠some b→v'.ownBlock≠some b:=fun b J aL e=>by
  rcases ae with ae|ae
  ·exact aL (ae▸e)
  ·rw[ae]at e;have:=Option.some.inj e;simp at this;omega
 obtain⟨xs,af⟩:=h.ro;have V_:=h.aX;have Hb:=h.aw;have K_:bW.ownBlock≠some E:=fun e=>by have:=Er _ e;omega
 have Es:bW.ownBlock≠some R:=fun e=>by have:=Er _ e;omega
 have hgR:l3 w' (w'.setCell ⟨E,3,none⟩ v') (fun b=>b≠E):=fun b _ aL=>Below.heap_setCell w' ⟨E,3,none⟩ v' b aL;refine⟨⟨U.os.trans h.two.os,U.tape.trans h.two.tape,U.output.trans h.two.output,?_,fun k aa aX aw=> ?_⟩,?_,x2 h.fz ue ⟨Es,h.qA.symm⟩,⟨us++[u],by simp[Aj],?_,fun i a b aZ J=> ?_⟩,⟨xs,vX af ue (fun b J=>⟨fun e=>h.ap b e J,fun e=>by have:=(World.ownsRow.lt af b J).1;omega⟩)⟩,fun g ai e=> ?_,h.aX,h.aw,h.qA⟩
 ·have:=U.size;have:=h.two.size;simp at*;omega
 ·have w8:=h.two.size;exact (ue k (by omega) ⟨fun e=>by have:=Er _ e;omega,aX⟩).trans (h.two.block k aa aX aw)
 ·have:=(x2 h.gn df K_).aP 3 v';simpa using this
 ·have zS:c3 w' B 31 AP 1 v' (us++[u]):=c3.snoc I;exact vX zS hgR (fun b J=>by have:=(World.ownsRow.lt zS b J).1;omega)
 ·have key:∀c d,(ff wr c d∧d.length≤1000∧∀b,c.ownBlock=some b→B≤b∧b<wr.heap.size∧bW.ownBlock≠some b∧bA.ownBlock≠some b)→ff (w'.setCell ⟨E,3,none⟩ v') c d∧d.length≤1000∧∀b,c.ownBlock=some b→B≤b∧b<(w'.setCell ⟨E,3,none⟩ v').heap.size∧v'.ownBlock≠some b∧bA.ownBlock≠some b:=by
   rintro c d ⟨cE,a2,a3⟩;exact⟨cE.stays ue (fun b J=>⟨(a3 b J).2.2.1,by have:=(a3 b J).1;omega⟩),a2,fun b J=>⟨(a3 b J).1,ue.lt (a3 b J).2.1 ⟨(a3 b J).2.2.1,by have:=(a3 b J).1;omega⟩,ay b (a3 b J).2.1 (a3 b J).2.2.1,(a3 b J).2.2.2⟩⟩
  by_cases aE:i<us.length
  ·rw[List.getElem?_append_left aE]at aZ;rw[List.getElem?_append_left (by omega)]at J;exact key _ _ (pS i a b aZ J)
  ·rw[List.getElem?_append_right (by omega)]at aZ;rw[List.getElem?_append_right (by omega),←Aj]at J;have hi0:i-us.length=0:=by have:=(b8 aZ).1;simp at this;omega
   rw[hi0]at aZ J
   cases aZ
   cases J;exact key _ _ ⟨hu,aq,bO⟩
 ·rcases ae with ae|ae
  ·exact h.ap g (ae▸ai) e
  ·rw[ae]at ai;have aJ:=Option.some.inj ai;have:=(World.ownsRow.lt af g e).2;simp at aJ;omega
theorem Gd.Oe {n:Nat} (h:Gd W E R B dt bo b4 bv bW bA acc n wr) (aA:acc.length=n+1) {xs bh:List Value} {o:Obj} {v':Value} (af:wr.ownsRow B 136 2 bA n xs) (I:w'.ownsRow B 136 2 v' (n+1) bh) (U:(wr.alloc o).grownBy w' bA.ownBlock)
  (ae:v'.ownBlock=bA.ownBlock∨v'.ownBlock=some (wr.alloc o).heap.size) (aU:W.heap.size≤B):
  tI W E R B dt bo b4 bv bW v' acc (w'.setCell ⟨R,2,none⟩ v'):=by
 have Cn:∀g,bA.ownBlock=some g→B≤g:=fun g ai=>(World.ownsRow.lt af g ai).1;have df:l3 wr w' (fun b=>bA.ownBlock≠some b):=fun b J aL=>(U.block b (by simp;omega) (fun e=>aL e.symm)).trans (Below.heap_alloc wr o b J);have ue:l3 wr (w'.setCell ⟨R,2,none⟩ v') (fun b=>bA.ownBlock≠some b∧b≠R):=fun b J aL=>(Below.heap_setCell w' ⟨R,2,none⟩ v' b aL.2).trans (df b J aL.1);have V_:=h.aX;have Hb:=h.aw;have K_:bA.ownBlock≠some E:=fun e=>by have:=Cn _ e;omega
 have Es:bA.ownBlock≠some R:=fun e=>by have:=Cn _ e;omega
 obtain⟨us,g1,g2,g3⟩:=h.yB;have ay:∀b,b<wr.heap.size→bA.ownBlock≠some b→v'.ownBlock≠some b:=fun b J aL e=>by
  rcases ae with ae|ae
  ·exact aL (ae▸e)
  ·rw[ae]at e;have:=Option.some.inj e;simp at this;omega
 refine⟨⟨U.os.trans h.two.os,U.tape.trans h.two.tape,U.output.trans h.two.output,?_,fun k aa aX aw=> ?_⟩,x2 h.gn ue ⟨K_,h.qA⟩,?_,⟨us,g1,?_,fun i a b aZ J=> ?_⟩,⟨bh,?_⟩,fun g ai e=> ?_,h.aX,h.aw,h.qA⟩
 ·have:=U.size;have:=h.two.size;simp at*;omega
 ·have w8:=h.two.size;exact (ue k (by omega) ⟨fun e=>by have:=Cn _ e;omega,fun e=>aw (by rw[e])⟩).trans (h.two.block k aa aX aw)
 ·have:=(x2 h.fz df Es).aP 2 v';simpa using this
 ·exact vX g2 ue (fun b J=>⟨fun e=>h.ap b J e,by have:=(World.ownsRow.lt g2 b J).1;omega⟩)
 ·obtain⟨cE,a2,a3⟩:=g3 i a b aZ J;have ok:∀c,a.ownBlock=some c→bA.ownBlock≠some c∧c≠R:=fun c ah=>⟨(a3 c ah).2.2.2,by have:=(a3 c ah).1;omega⟩;exact⟨cE.stays ue ok,a2,fun c ah=>⟨(a3 c ah).1,ue.lt (a3 c ah).2.1 (ok c ah),(a3 c ah).2.2.1,ay c (a3 c ah).2.1 (a3 c ah).2.2.2⟩⟩
 ·rw[aA];exact vX I (w':=w'.setCell ⟨R,2,none⟩ v') (ok:=fun b=>b≠R) (fun b _ aL=>Below.heap_setCell w' ⟨R,2,none⟩ v' b aL) (fun b J=>by have:=(World.ownsRow.lt I b J).1;omega)
 ·exact ay g (World.ownsRow.lt g2 g ai).2 (h.ap g ai) e
end
def Dy (P D M:Nat) (fR:Option Addr) (bo b6 bA hX hQ hz:Value) (s m:bP) (nb cI:List Bool) (wr:World):Prop:=
 ao wr P 130 #[s.ag,s.ms,bo,b6,bA,m.ag,m.ms,hX,hQ,hz,.slice (some ⟨D,0,none⟩) nb.length nb.length,.slice fR cI.length cI.length]∧
 ao wr D 4 (iw nb)∧(0<cI.length→fR=some ⟨M,0,none⟩∧ao wr M 4 (iw cI))
structure JC (w:World) (P D M:Nat) (bo b6 bA hX hQ hz:Value) (s m:bP):Prop where
 s:iH w (.agg #[s.ag,s.ms,bo,b6,bA]) s
 m:iH w (.agg #[m.ag,m.ms,hX,hQ,hz]) m
 Ir:P≠D
 pm:P≠M
 anJ:D≠M
 wp:w.heap.size≤P
 wd:w.heap.size≤D
 an6:w.heap.size≤M
def LO (s m:bP) (w:World) (e:Ending) (w':World):Prop:=∃(P D M:Nat) (fR:Option Addr) (bo b6 bA hX hQ hz:Value),e= .returned (.pointer (some ⟨P,0,none⟩))∧Kept w w'∧
 JC w P D M bo b6 bA hX hQ hz s m∧Dy P D M fR bo b6 bA hX hQ hz s m (List.replicate s.ds.length false) (List.replicate m.ds.length false) w'
theorem ahg (bT:Value) (l:cZ) (i:Nat) (s:bP) (w:World) (bL:gy w bT l) (aE:l.sc[i]?=some s) (w_:s.ms= -1∨(0≤s.ms∧s.ms<l.sc.length)) (av:∀t∈l.sc,t.ds.length≤1000):
  Calls prog 21 #[bT,i] w (LO s (b0 l s) w):=by
 obtain⟨i0,de,fy,cb,eu⟩:=info_parts Tryz.Ls;obtain⟨c_,b4,b2,rfl,aj,I,U⟩:=bL;obtain⟨cY,fw,rfl,-⟩:=id aj;obtain⟨cU,cW,rfl,-⟩:=id I;obtain⟨jU,hP,rfl,W4,Eo,pY⟩:=id U;have fP:=(b8 aE).1;have Lm:=av s (List.mem_of_getElem? aE);obtain⟨b,o,rfl,J,ah⟩:=pY (by omega);obtain⟨⟨t0,-⟩,⟨t1,-⟩,⟨bo,t2,bC⟩,⟨b6,t3,b'⟩,⟨bA,t4,aw⟩⟩:=ah i s aE;unfold ed at t0 t1 t2 t3 t4;have cD:=hid (show iH w (.agg #[s.ag,s.ms,bo,b6,bA]) s from⟨bo,b6,bA,rfl,bC,b',aw⟩);obtain⟨gN,gS,rfl,-⟩:=id bC;obtain⟨fo,fS,rfl,-⟩:=id b';obtain⟨eC,rc,rfl,-⟩:=id aw;have aF:=(aQ w).alloc (.cells #[.slice cY l.bm.length fw,.slice cU l.tb.length cW,.slice (some ⟨b,o,none⟩) l.sc.length hP] 26);replace t0:=aF.ad J t0;replace t1:=aF.ad J t1;replace t2:=aF.ad J t2;replace t3:=aF.ad J t3;replace t4:=aF.ad J t4;have rI:=bd J aF.size;have a_:=ao.new w 26 #[.slice cY l.bm.length fw,.slice cU l.tb.length cW,.slice (some ⟨b,o,none⟩) l.sc.length hP];have c6:(i:Int)<l.sc.length:=by omega
 have Bc:=hid w_;have C2:=hid ah;have M7:=hid av;have qc:=hid J;clear ah bC b' aw pY aj I U w_ av aE;generalize lR:l.sc.length=aaa at*;have n':=hid lR;clear lR;generalize l.bm.length=dN at*;generalize l.tb.length=dh at*;go_enter func21,ntmps21
 go_upto_region 1 with fail
 generalize w.alloc (.cells #[.slice cY dN fw,.slice cU dh cW,.slice (some ⟨b,o,none⟩) aaa hP] 26)=W at*;obtain⟨b5,cA⟩:=a_.p;go_upto_region 2 with fail
 generalize PA:W.heap.size=P at*;have Ec:w.heap.size<P:=cA;generalize ar:W.alloc _=V at*;obtain⟨NR,y4⟩:=Kept.az ar;clear ar;rw[PA]at y4;have rf:=hid PA;clear t0 t1 t2 t3 t4 b5 cA PA;have aS:=a_.kept NR;obtain⟨aC,a7,f1⟩:=y4.q;go_upto_region 3 with (at_make;refine wpList_make_full _ rfl _ _ 128 rfl V.heap.size 4 i0 (.bool false) 1 underlying128 de fy cb _ _ _ _ s.ds.length rfl rfl rfl rfl (by rw[eu];omega) (by unfold maxLen;omega) (Nat.le_refl _) ?_;intro w2 cR cd;obtain⟨Ig,Ax⟩:=Ia cR cd;clear cR cd;clear aC a7 f1;have cm:=y4.kept Ax;have aC:=cm.cell;have a7:=cm.lt;have f1:=cm.frozen)
 generalize KF:V.heap.size=D at*;have yi:P<D:=by have:=y4.lt;omega
 have Jx:Kept W (w2.setCell ⟨P,10,none⟩ (.slice (some ⟨D,0,none⟩) s.ds.length s.ds.length)):=(NR.trans Ax).setCell (p:=⟨P,10,none⟩) (by have:=rf.out;simp only;omega) _;have FD:=cm.aP 10 (.slice (some ⟨D,0,none⟩) s.ds.length s.ds.length);have MY:=Ig.far (p:=⟨P,10,none⟩) (by simp only;omega) (.slice (some ⟨D,0,none⟩) s.ds.length s.ds.length);simp only[List.setIfInBounds_toArray,List.set_cons_zero,List.set_cons_succ]at FD;clear aC a7 f1 cm Ig Ax aS y4 NR;generalize w2.setCell ⟨P,10,none⟩ (.slice (some ⟨D,0,none⟩) s.ds.length s.ds.length)=bG at*;have hI:=a_.kept Jx;obtain⟨b5,cA⟩:=hI.p;obtain⟨aC,a7,f1⟩:=FD.q;rcases Bc.out with hm|⟨yn,kD⟩
 ·have hmn:s.ms<0:=by omega
  have cp:=hid hm;have aV:=hid (show LO s (b0 l s) w (.returned (.pointer (some ⟨P,0,none⟩))) bG from by
   have e:b0 l s=iq:=by unfold b0;rw[if_neg (by omega)]
   rw[e];refine⟨P,D,D+1,none,_,_,_,aR,aR,aR,rfl,aF.trans Jx,⟨cD.out,⟨_,_,_,rfl,⟨none,0,rfl,Nat.le_refl _,by simp[iq],fun h=>absurd h (by simp[iq])⟩,⟨none,0,rfl,Nat.le_refl _,by simp[iq],fun h=>absurd h (by simp[iq])⟩,⟨none,0,rfl,Nat.le_refl _,by simp[iq],fun h=>absurd h (by simp[iq])⟩⟩,by omega,by omega,by omega,by omega,by omega,by omega⟩,?_,MY,fun h=>absurd h (by simp[iq])⟩;rw[List.length_replicate];exact FD)
  clear hm;go_wp2_with fail
  go_ret;exact aV.out
 ·obtain⟨k,aa⟩:=Int.eq_ofNat_of_zero_le yn;have ie:k<l.sc.length:=by rw[n'.out];omega
  have ai:l.sc[k]?=some (l.sc[k]'ie):=a8 ie;have br:b0 l s=l.sc[k]'ie:=by unfold b0;rw[if_pos yn,aa,Int.toNat_natCast,ai];rfl
  have qK:=M7.out _ (List.mem_of_getElem? ai);obtain⟨⟨u0,-⟩,⟨u1,-⟩,⟨QT,u2,bC⟩,⟨OW,u3,b'⟩,⟨RW,u4,aw⟩⟩:=C2.out k _ ai;have qg:=hid (show iH w (.agg #[.string (l.sc[k]'ie).ag,.int .i64 (l.sc[k]'ie).ms,QT,OW,RW]) (l.sc[k]'ie)from⟨QT,OW,RW,rfl,bC,b',aw⟩);generalize l.sc[k]'ie=m at*;have zl:=hid br;unfold ed at u0 u1 u2 u3 u4;obtain⟨Dr,EU,rfl,-⟩:=id bC;obtain⟨lZ,gZ,rfl,-⟩:=id b';obtain⟨iG,sc,rfl,-⟩:=id aw;have m_:=aF.trans Jx;replace u0:=m_.ad qc.out u0;replace u1:=m_.ad qc.out u1;replace u2:=m_.ad qc.out u2;replace u3:=m_.ad qc.out u3;replace u4:=m_.ad qc.out u4;have hbu:=bd qc.out m_.size;have jI:(k:Int)<aaa:=by omega
  have XB:((k:Int)≥0):=by omega
  rw[aa]at aC;clear bC b' aw ai br;go_upto_region 4 with fail
  go_region
  have AU:=((((FD.aP 5 (.string m.ag)).aP 6 m.ms).aP 7 (.slice Dr m.ins.length EU)).aP 8 (.slice lZ m.ds.length gZ)).aP 9 (.slice iG m.rs.length sc);simp only[List.setIfInBounds_toArray,List.set_cons_zero,List.set_cons_succ]at AU;have EB:D≠P:=by omega
  have FC:=((((MY.far (p:=⟨P,5,none⟩) EB (.string m.ag)).far (p:=⟨P,6,none⟩) EB m.ms).far (p:=⟨P,7,none⟩) EB (.slice Dr m.ins.length EU)).far (p:=⟨P,8,none⟩) EB (.slice lZ m.ds.length gZ)).far (p:=⟨P,9,none⟩) EB (.slice iG m.rs.length sc);have fe:Kept w (((((bG.setCell ⟨P,5,none⟩ (.string m.ag)).setCell ⟨P,6,none⟩ m.ms).setCell ⟨P,7,none⟩ (.slice Dr m.ins.length EU)).setCell ⟨P,8,none⟩ (.slice lZ m.ds.length gZ)).setCell ⟨P,9,none⟩ (.slice iG m.rs.length sc)).drew:=by
   refine Kept.drew ?_
   repeat refine Kept.setCell ?_ (by simp only;omega) _
   exact m_
  replace AU:ao (((((bG.setCell ⟨P,5,none⟩ (.string m.ag)).setCell ⟨P,6,none⟩ m.ms).setCell ⟨P,7,none⟩ (.slice Dr m.ins.length EU)).setCell ⟨P,8,none⟩ (.slice lZ m.ds.length gZ)).setCell ⟨P,9,none⟩ (.slice iG m.rs.length sc)).drew P 130 _:=AU;replace FC:ao (((((bG.setCell ⟨P,5,none⟩ (.string m.ag)).setCell ⟨P,6,none⟩ m.ms).setCell ⟨P,7,none⟩ (.slice Dr m.ins.length EU)).setCell ⟨P,8,none⟩ (.slice lZ m.ds.length gZ)).setCell ⟨P,9,none⟩ (.slice iG m.rs.length sc)).drew D 4 _:=FC;clear b5 cA aC a7 f1 u0 u1 u2 u3 u4 FD MY hI m_ Jx a_ hbu;generalize (((((bG.setCell ⟨P,5,none⟩ (.string m.ag)).setCell ⟨P,6,none⟩ m.ms).setCell ⟨P,7,none⟩ (.slice Dr m.ins.length EU)).setCell ⟨P,8,none⟩ (.slice lZ m.ds.length gZ)).setCell ⟨P,9,none⟩ (.slice iG m.rs.length sc)).drew=X at*;obtain⟨aC,a7,f1⟩:=AU.q;have np:=FC.lt;go_upto_region 6 with (at_make;refine wpList_make_full _ rfl _ _ 128 rfl X.heap.size 4 i0 (.bool false) 1 underlying128 de fy cb _ _ _ _ m.ds.length rfl rfl rfl rfl (by rw[eu];omega) (by unfold maxLen;omega) (Nat.le_refl _) ?_;intro w2 cR cd;obtain⟨Ig,Ax⟩:=Ia cR cd;clear cR cd;clear aC a7 f1;have cm:=AU.kept Ax;have aC:=cm.cell;have a7:=cm.lt;have f1:=cm.frozen)
  have Qk:P<X.heap.size:=AU.lt;have BD4:=(FC.kept Ax).far (p:=⟨P,11,none⟩) EB (.slice (some ⟨X.heap.size,0,none⟩) m.ds.length m.ds.length);have SE:=cm.aP 11 (.slice (some ⟨X.heap.size,0,none⟩) m.ds.length m.ds.length);have BM4:=Ig.far (p:=⟨P,11,none⟩) (by simp only;omega) (.slice (some ⟨X.heap.size,0,none⟩) m.ds.length m.ds.length);have eO:=(fe.trans Ax).setCell (p:=⟨P,11,none⟩) (by simp only;omega) (.slice (some ⟨X.heap.size,0,none⟩) m.ds.length m.ds.length);simp only[List.setIfInBounds_toArray,List.set_cons_zero,List.set_cons_succ]at SE;have hwX:=fe.size;have aV:=hid (show LO s m w (.returned (.pointer (some ⟨P,0,none⟩))) (w2.setCell ⟨P,11,none⟩ (.slice (some ⟨X.heap.size,0,none⟩) m.ds.length m.ds.length))from by
   refine⟨P,D,X.heap.size,some ⟨X.heap.size,0,none⟩,_,_,_,_,_,_,rfl,eO,⟨cD.out,qg.out,by omega,by omega,by omega,by omega,by omega,by omega⟩,?_,BD4,fun _=>⟨rfl,BM4⟩⟩;rw[List.length_replicate,List.length_replicate];exact SE)
  clear aC a7 f1 cm Ig Ax AU FC;generalize w2.setCell ⟨P,11,none⟩ (.slice (some ⟨X.heap.size,0,none⟩) m.ds.length m.ds.length)=Y at*;go_wp2_with fail
  go_ret;rw[zl.out];exact aV.out
noncomputable def x' (l:cZ) (m s:bP) (c:h9) (nb cI:List Bool):List bg×Int:=
 if (kI ca l.tb c.d m cI c.mem []).2≠0 then ([],(kI ca l.tb c.d m cI c.mem []).2)else nC ca (vk l m c (kI ca l.tb c.d m cI c.mem []).1) s nb
def yx (v:Value):Prop:=∃A n c,v= .slice A n c
def Kz (R:List bg×Int) (n:Nat) (w:World) (e:Ending) (w':World):Prop:=
 ∃(u0 u1 u2 bZ b3 cT ha h0 se:Value) (a b d:Int),e= .returned (.tuple #[.agg #[u0,u1,u2],.agg #[bZ,b3,cT,ha,h0,se],.agg #[R.2,a,.int .i64 b,d]])∧Kept w w'∧(R.2=0→ff w' u0 R.1∧∃dF,fC w' u1 dF∧dF.length=n)∧(R.2=0→a=0∧b=0∧d=0)∧(R.2=0→(∀b,u0.ownBlock=some b→w.heap.size≤b)∧∀b,u1.ownBlock=some b→w.heap.size≤b)∧((yx u0∧yx u1∧yx u2)∧(∃z,bZ= .int .i64 z)∧yx b3∧yx cT∧yx ha∧yx h0∧yx se)
theorem UI {w:World} {fR:Option Addr} {M:Nat} {cI:List Bool} (h:0<cI.length→fR=some ⟨M,0,none⟩∧ao w M 4 (iw cI)):AV w (.slice fR cI.length cI.length) cI:=by
 refine⟨fR,cI.length,rfl,fun hp=> ?_⟩;obtain⟨rfl,aU⟩:=h hp;refine⟨M,0,rfl,aU.lt,fun j x aB i u hu=> ?_⟩;unfold UF at hu
 cases i with
 |succ i=>cases i<;>cases hu
 |zero=>
  cases hu;rw[Nat.mul_one,Nat.zero_add,Nat.add_zero];exact (aU.cell j).trans (qu aB)
structure wI (W:World) (E B:Nat) (dt:Int) (bo b4 bv:Value) (ba:List cO) (wr:World):Prop where
 two:Two W wr none E
 gn:ao wr E 98 #[dt,bo,aR,aR,b4,bv]
 row:c3 wr B 57 jx 2 b4 ba
 aX:E<B
theorem wI.keep {W wr w':World} {E B:Nat} {dt:Int} {bo b4 bv:Value} {ba:List cO} (h:wI W E B dt bo b4 bv ba wr) (aa:Kept wr w'):wI W E B dt bo b4 bv ba w':=
 ⟨h.two.trans (Two.iZ aa) (.inl rfl),h.gn.kept aa,h.row.n3 aa,h.aX⟩
theorem wI.E5 {W wr w':World} {E B:Nat} {dt:Int} {bo b4 bv:Value} {ba:List cO} {o:Obj} (h:wI W E B dt bo b4 bv ba wr) (U:(wr.alloc o).grownBy w' b4.ownBlock):
  l3 wr w' (fun b=>b4.ownBlock≠some b)∧b4.ownBlock≠some E∧ao w' E 98 #[dt,bo,aR,aR,b4,bv]:=by
 have df:l3 wr w' (fun b=>b4.ownBlock≠some b):=fun b J aL=>(U.block b (by simp;omega) (fun e=>aL e.symm)).trans (Below.heap_alloc wr o b J);have EL:b4.ownBlock≠some E:=fun e=>by have:=(World.ownsRow.lt h.row _ e).1;have:=h.aX;omega
 exact⟨df,EL,x2 h.gn df EL⟩
theorem wI.app {W wr w':World} {E B n:Nat} {dt:Int} {bo b4 bv:Value} {ba:List cO} {t:cO} {o:Obj} {v':Value} (h:wI W E B dt bo b4 bv ba wr) (aU:W.heap.size≤B) (aA:ba.length=n) (I:w'.ownsRow B 57 2 v' (n+1) (ba.flatMap jx++jx t)) (U:(wr.alloc o).grownBy w' b4.ownBlock):
  wI W E B dt bo v' bv (ba++[t]) (w'.setCell ⟨E,4,none⟩ v'):=by
 subst aA;have htB:∀g,b4.ownBlock=some g→B≤g:=fun g ai=>(World.ownsRow.lt h.row g ai).1;obtain⟨df,EL,hBE⟩:=h.E5 U;have V_:=h.aX;have zS:c3 w' B 57 jx 2 v' (ba++[t]):=c3.snoc I;refine⟨⟨U.os.trans h.two.os,U.tape.trans h.two.tape,U.output.trans h.two.output,?_,fun k aa aX aw=> ?_⟩,?_,vX zS (w':=w'.setCell ⟨E,4,none⟩ v') (ok:=fun b=>b≠E) (fun b _ aL=>Below.heap_setCell w' ⟨E,4,none⟩ v' b aL) (fun b J=>by have:=(World.ownsRow.lt zS b J).1;omega),h.aX⟩
 ·have:=U.size;have:=h.two.size;simp at*;omega
 ·have w8:=h.two.size;exact (Below.heap_setCell w' ⟨E,4,none⟩ v' k aX).trans ((df k (by omega) (fun e=>by have:=htB _ e;omega)).trans (h.two.block k aa aX aw))
 ·have:=hBE.aP 4 v';simpa using this
theorem IJ {w w':World} {E R g:Nat} {t:TypeId} {cs:Array Value} (h:Two w w' (some R) E) (aU:ao w g t cs) (I:g≠E) (U:g≠R):ao w' g t cs:=(h.block g aU.lt I (by simp;omega)).trans aU
theorem aiU (w:World) (g:Nat) (b5 aC aM a1:Value):l3 w ((((w.setCell ⟨g,0,none⟩ b5).setCell ⟨g,1,none⟩ aC).setCell ⟨g,2,none⟩ aM).setCell ⟨g,3,none⟩ a1) (fun b=>b≠g):=fun b _ aL=>
 (Below.heap_setCell _ ⟨g,3,none⟩ a1 b aL).trans ((Below.heap_setCell _ ⟨g,2,none⟩ aM b aL).trans ((Below.heap_setCell _ ⟨g,1,none⟩ aC b aL).trans (Below.heap_setCell w ⟨g,0,none⟩ b5 b aL)))
def wh (dI:World) (p g3 H:Nat) (dt:Int) (bo bW b4 bv u:Value) (fA:List bg) (b_ a b d:Int) (c7:Nat) (bt:World):Prop:=
 ao bt g3 46 #[b_,a,.int .i64 b,d]∧Two dI bt none p∧dI.heap.size≤g3∧(b_=0→∃b6 dF,ao bt p 98 #[dt,bo,b6,bW,b4,bv]∧ff bt b6 fA∧fC bt u dF∧dF.length=c7∧(∀b,b6.ownBlock=some b→H≤b∧b<bt.heap.size∧b≠g3)∧∀b,u.ownBlock=some b→H≤b)
theorem wh.after {dI X w':World} {p:Nat} {dt:Int} {bo bW b4 bv u:Value} {fA:List bg} {b_ a b d:Int} {c7:Nat} (c5:Two dI X none p) (bl:Two X w' none p)
  (h:b_=0→∃b6 dF,ao w' p 98 #[dt,bo,b6,bW,b4,bv]∧ff w' b6 fA∧fC w' u dF∧dF.length=c7∧(∀b,b6.ownBlock=some b→X.heap.size≤b∧b<w'.heap.size)∧∀b,u.ownBlock=some b→X.heap.size≤b):
  wh dI p w'.heap.size X.heap.size dt bo bW b4 bv u fA b_ a b d c7 (w'.alloc (.cells #[b_,a,.int .i64 b,d] 46)):=by
 have aa:=(aQ w').alloc (.cells #[b_,a,.int .i64 b,d] 46);have kB:=c5.trans bl (.inl rfl);refine⟨ao.new w' _ _,kB.trans (Two.iZ aa) (.inl rfl),kB.size,fun ah=> ?_⟩;obtain⟨b6,dF,g1,g2,g3,g4,g5,g6⟩:=h ah;refine⟨b6,dF,g1.kept aa,g2.kept aa,g3.kept aa,g4,fun b J=>⟨(g5 b J).1,by have:=(g5 b J).2;simp;omega,by have:=(g5 b J).2;omega⟩,g6⟩
theorem wh.before {dI X w':World} {p g3:Nat} {dt:Int} {bo bW b4 bv u:Value} {fA:List bg} {b_ a b d:Int} {c7:Nat} (c5:Two dI X none p) (vx:dI.heap.size≤g3) (K7:g3≠p) (ai:ao w' g3 46 #[(),(),(),()]) (hgX:g3<X.heap.size) (bl:Two X w' none p)
  (h:b_=0→∃b6 dF,ao w' p 98 #[dt,bo,b6,bW,b4,bv]∧ff w' b6 fA∧fC w' u dF∧dF.length=c7∧(∀b,b6.ownBlock=some b→X.heap.size≤b∧b<w'.heap.size)∧∀b,u.ownBlock=some b→X.heap.size≤b):
  wh dI p g3 X.heap.size dt bo bW b4 bv u fA b_ a b d c7 ((((w'.setCell ⟨g3,0,none⟩ b_).setCell ⟨g3,1,none⟩ a).setCell ⟨g3,2,none⟩ (.int .i64 b)).setCell ⟨g3,3,none⟩ d):=by
 have df:=aiU w' g3 b_ a (.int .i64 b) d;have kB:=c5.trans bl (.inl rfl);refine⟨?_,?_,vx,fun ah=> ?_⟩
 ·have:=(((ai.aP 0 b_).aP 1 a).aP 2 (.int .i64 b)).aP 3 d;simpa using this
 ·exact (((kB.lV vx _ _).lV vx _ _).lV vx _ _).lV vx _ _
 ·obtain⟨b6,dF,g1,g2,g4,g5,g6,g7⟩:=h ah;have eW:∀b,b6.ownBlock=some b→b≠g3:=fun b J=>by have:=(g6 b J).1;omega
  have xi:∀b,u.ownBlock=some b→b≠g3:=fun b J=>by have:=g7 b J;omega
  exact⟨b6,dF,x2 g1 df K7.symm,g2.stays df eW,g4.stays df xi,g5,fun b J=>⟨(g6 b J).1,by simp;exact (g6 b J).2,eW b J⟩,g7⟩
theorem Vx {w w':World} {R:List bg×Int} {n:Nat} {b_ a b d:Int} {x:List bg} (h:R=(x,b_)) (aj:b_≠0) (aa:Kept w w'):Kz R n w (.returned (.tuple #[.agg #[aR,aR,aR],.agg #[(),aR,aR,aR,aR,aR],.agg #[b_,a,b,d]])) w':=by
 subst h;have ax:yx aR:=⟨_,_,_,rfl⟩;exact⟨_,_,_,_,_,_,_,_,_,a,b,d,rfl,aa,fun h=>absurd h aj,fun h=>absurd h aj,fun h=>absurd h aj,⟨ax,ax,ax⟩,⟨_,rfl⟩,ax,ax,ax,ax,ax⟩
theorem Mg {Lf:gm} {E:dC} {rs:List bf} {nb:List Bool}:∀(o:List Int) (ds:List bg),(iL Lf E rs nb o ds).1.length=ds.length
 |[],ds=>by unfold iL;rfl
 |d::r,ds=>by
  unfold iL;split
  ·exact Mg r ds
  ·split
   ·rfl
   ·rw[Mg r];exact List.length_set ..
theorem tI.E5 {W:World} {E R B:Nat} {dt:Int} {bo b4 bv bW bA:Value} {acc:List (List bg)} {wr w':World} {o:Obj} (h:tI W E R B dt bo b4 bv bW bA acc wr) (U:(wr.alloc o).grownBy w' bW.ownBlock):
  l3 wr w' (fun b=>bW.ownBlock≠some b)∧bW.ownBlock≠some E∧ao w' E 98 #[dt,bo,aR,bW,b4,bv]:=by
 have df:l3 wr w' (fun b=>bW.ownBlock≠some b):=fun b J aL=>(U.block b (by simp;omega) (fun e=>aL e.symm)).trans (Below.heap_alloc wr o b J);have EL:bW.ownBlock≠some E:=fun e=>by
  obtain⟨us,-,g,-⟩:=h.yB;have:=(World.ownsRow.lt g _ e).1;have:=h.aX;omega
 exact⟨df,EL,x2 h.gn df EL⟩
theorem Gd.E5 {W:World} {E R B n:Nat} {dt:Int} {bo b4 bv bW bA:Value} {acc:List (List bg)} {wr w':World} {o:Obj} (h:Gd W E R B dt bo b4 bv bW bA acc n wr) (U:(wr.alloc o).grownBy w' bA.ownBlock):
  ao w' R 95 #[aR,aR,bA]:=by
 have df:l3 wr w' (fun b=>bA.ownBlock≠some b):=fun b J aL=>(U.block b (by simp;omega) (fun e=>aL e.symm)).trans (Below.heap_alloc wr o b J);exact x2 h.fz df (fun e=>by
  obtain⟨xs,g⟩:=h.ro;have:=(World.ownsRow.lt g _ e).1;have:=h.aw;omega)
theorem tI.Zc {W:World} {E R B:Nat} {dt:Int} {bo b4 bv bW bA:Value} {acc:List (List bg)} {wr:World} (h:tI W E R B dt bo b4 bv bW bA acc wr):(∀g,bW.ownBlock=some g→g<wr.heap.size)∧∀g,bA.ownBlock=some g→g<wr.heap.size:=by
 obtain⟨us,-,g,-⟩:=h.yB;obtain⟨xs,hR⟩:=h.ro;exact⟨fun q au=>(World.ownsRow.lt g q au).2,fun q au=>(World.ownsRow.lt hR q au).2⟩
theorem BB {w:World} {g E i:Nat} {t:TypeId} {cs:Array Value} {v:Value} (h:ao w g t cs) (bQ:g≠E):ao (w.setCell ⟨E,i,none⟩ v) g t cs:=h.far (p:=⟨E,i,none⟩) bQ v
theorem agV (Lf:gm) (tb:List jm) (dt:Int) (m:bP) (nb:List Bool) (eg:List bg) (r acc:List (List bg)):kI Lf tb dt m nb (eg::r) acc=if (nC Lf (r2 tb dt eg) m nb).2≠0 then ([],(nC Lf (r2 tb dt eg) m nb).2)else kI Lf tb dt m nb r (acc++[(nC Lf (r2 tb dt eg) m nb).1]):=by rw[kI]
theorem ajX {w w':World} {E:Nat} {r:Option Nat} (h:Two w w' none E):Two w w' r E:=⟨h.os,h.tape,h.output,h.size,fun k I U _=>h.block k I U (by simp)⟩
theorem ajY {w W wr:World} {E R:Nat} (h:Two W wr (some R) E) (aa:Kept w W) (aX:w.heap.size≤E) (aw:w.heap.size≤R):Kept w wr:=
 ⟨h.os.trans aa.os,h.tape.trans aa.tape,h.output.trans aa.output,Nat.le_trans aa.size h.size,fun b J=>(h.block b (bd J aa.size) (by omega) (by simp;omega)).trans (aa.block b J)⟩
theorem aa9 {s:jl} {e:List cz} {t:cO} (h:q1 s e=(t,0)):e.length≤48:=by
 unfold q1 at h;split at h
 ·rename_i I;exact absurd (congrArg Prod.snd h) I
 ·rename_i I;exact (aaS (by simpa using I)).2.1
theorem agG (p:bf→Bool) (l:List bf):l.length=(l.filter p).length+(l.filter fun r=> ! p r).length:=by
 induction l with
 |nil=>rfl
 |cons r l bH=>cases h:p r<;>simp[h]<;>omega
theorem adO {k:Nat}:∀(n:Nat) (l:List bf),(∀r∈l,0≤r.bK∧r.bK<(n:Int))→(∀d:Int,oT d l≤k)→l.length≤k*n:=by
 intro n;induction n with
 |zero=>
  intro l aH _
  cases l with
  |nil=>simp
  |cons r l=>have:=aH r (by simp);omega
 |succ n bH=>
  intro l aH ah;rw[agG (fun r=>decide (r.bK=(n:Int)))];have I:(l.filter fun r=>decide (r.bK=(n:Int))).length≤k:=ah n;have U:(l.filter fun r=> ! decide (r.bK=(n:Int))).length≤k*n:=bH _ (fun r hm=>by
   rw[List.mem_filter]at hm;have:=aH r hm.1;have ae:r.bK≠(n:Int):=by simpa using hm.2
   omega) (fun d=>Nat.le_trans (by
    unfold oT;exact (List.filter_sublist.filter _).length_le) (ah d))
  rw[Nat.mul_succ];omega
theorem adN {iM:jl} {s:bP} (h:∀i r,s.rs[i]?=some r→tL iM s i r) (d:Int):∀i,oT d (s.rs.take i)≤8:=by
 intro i;induction i with
 |zero=>simp[oT]
 |succ i bH=>
  by_cases aE:i<s.rs.length
  ·have ai:s.rs[i]?=some s.rs[i]:=a8 aE;rw[U' ai];have aH:=(h i _ ai).gX;split
   ·rename_i e;rw[e]at aH;omega
   ·omega
  ·rw[List.take_of_length_le (by omega)]at bH⊢;exact bH
theorem aar {iM:jl} {s:bP} (h:∀i r,s.rs[i]?=some r→tL iM s i r) (av:s.ds.length≤12):pB s.rs:=by
 have eG:∀r∈s.rs,∃i,tL iM s i r:=fun r hm=>by
  obtain⟨i,aE⟩:=List.getElem?_of_mem hm;exact⟨i,h i r aE⟩
 refine⟨?_,fun r hm=> ?_⟩
 ·have I:=adO (k:=8) s.ds.length s.rs (fun r hm=>by obtain⟨i,aH⟩:=eG r hm;exact aH.bK) (fun d=>by
   have:=adN h d s.rs.length;rwa [List.take_length]at this)
  omega
 ·obtain⟨i,aH⟩:=eG r hm;refine⟨?_,?_⟩
  ·by_cases ai:0<r.g.length
   ·exact aa9 (aH.GV ai)
   ·omega
  ·have hdf:=aH.bK;have aD:r.bK.toNat<s.ds.length:=by omega
   exact aa9 (aH.fA _ (a8 aD))
structure oh (l:cZ) (i:Nat) (s:bP):Prop where
 ne:eS s.ag (l.bm.map (·.ag))=false
 ik:eS s.ag (l.tb.map (·.ag))=false
 yG:eS s.ag ((l.sc.take i).map (·.ag))=false
 id:lr (L s.ag)=true
 ms:s.ms= -1∨(0≤s.ms∧s.ms<i∧∀t,l.sc[s.ms.toNat]?=some t→t.ms= -1)
 i12:s.ins.length≤12
 d12:s.ds.length≤12
 ins:∀j f,s.ins[j]?=some f→po l.ms f (s.ins.take j) []
 ds:∀j f,s.ds[j]?=some f→po l.ms f s.ins (s.ds.take j)
 rs:∀j r,s.rs[j]?=some r→tL (xq l s) s j r
 ac:∀d:Nat,d<s.ds.length→(fZ s.ds.length s.rs d).contains (d:Int)=false
end Go.Proofs.YtobpgndkciofhaaGreatDoor
