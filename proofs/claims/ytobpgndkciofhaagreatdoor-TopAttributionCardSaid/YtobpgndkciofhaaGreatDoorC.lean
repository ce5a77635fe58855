import Derived.Test.YtobpgndkciofhaaGreatDoorB
set_option linter.all false
namespace Go.Proofs.YtobpgndkciofhaaGreatDoor
open Go.RowKit Go.Proofs.Tryz
open Go.Lib (hid)
set_option maxRecDepth 100000
set_option maxHeartbeats 8000000
def cH {α:Type} (k:Nat) (P:World→Nat→Nat→α→Prop) (w:World) (v:Value) (xs:List α):Prop:=
 ∃A cap,v= .slice A xs.length cap∧xs.length≤cap∧xs.length≤8796093022208∧(0<xs.length→∃b off,A=some ⟨b,off,none⟩∧b<w.heap.size∧∀j x,xs[j]?=some x→P w b (off+j*k) x)
def zu {α:Type} (P:World→Nat→Nat→α→Prop):Prop:=∀w w' b o x,Kept w w'→b<w.heap.size→P w b o x→P w' b o x
theorem cH.kept {α:Type} {k:Nat} {P:World→Nat→Nat→α→Prop} (dJ:zu P) {w w':World} {v:Value} {xs:List α} (h:cH k P w v xs) (aa:Kept w w'):cH k P w' v xs:=by
 obtain⟨A,cap,ay,ah,aq,af⟩:=h;refine⟨A,cap,ay,ah,aq,fun hp=> ?_⟩;obtain⟨b,off,aK,J,fH⟩:=af hp;exact⟨b,off,aK,bd J aa.size,fun j x aB=>dJ _ _ _ _ _ aa J (fH j x aB)⟩
def ed (w:World) (b o:Nat) (v:Value):Prop:=w.cell? ⟨b,o,none⟩=some v
theorem ed.kept {w w':World} {b o:Nat} {v:Value} (h:ed w b o v) (aa:Kept w w') (J:b<w.heap.size):ed w' b o v:=aa.ad J h
def sg (w:World) (b o:Nat) (s:ByteArray):Prop:=ed w b o (.string s)∧s.size≤140737488355328
theorem sg.kept {w w':World} {b o:Nat} {s:ByteArray} (h:sg w b o s) (aa:Kept w w') (J:b<w.heap.size):sg w' b o s:=⟨h.1.kept aa J,h.2⟩
def k_ (w:World) (b o:Nat) (n:Int):Prop:=ed w b o n∧ -9223372036854775808≤n∧n≤9223372036854775807
theorem k_.kept {w w':World} {b o:Nat} {n:Int} (h:k_ w b o n) (aa:Kept w w') (J:b<w.heap.size):k_ w' b o n:=⟨h.1.kept aa J,h.2⟩
def qn {α:Type} (R:World→Value→α→Prop) (w:World) (b o:Nat) (xs:α):Prop:=∃v,ed w b o v∧R w v xs
theorem qn.kept {α:Type} {R:World→Value→α→Prop} {xs:α} {w w':World} {b o:Nat} (aw:∀v,R w v xs→R w' v xs) (h:qn R w b o xs) (aa:Kept w w') (J:b<w.heap.size):qn R w' b o xs:=by
 obtain⟨v,I,U⟩:=h;exact⟨v,I.kept aa J,aw v U⟩
def qq (w:World) (v:Value) (xs:List ByteArray):Prop:=cH 1 sg w v xs
theorem qq.kept {w w':World} {v:Value} {xs:List ByteArray} (h:qq w v xs) (aa:Kept w w'):qq w' v xs:=cH.kept (P:=sg) (fun _ _ _ _ _ aa J h=>sg.kept h aa J) h aa
def n_ (w:World) (b o:Nat) (x:mo):Prop:=sg w b o x.ag∧qn qq w b (o+1) x.mem
theorem n_.kept:zu n_:=fun _ _ _ _ _ aa J ⟨I,U⟩=>⟨I.kept aa J,U.kept (fun _ h=>h.kept aa) aa J⟩
def jZ (w:World) (b o:Nat) (x:kT):Prop:=k_ w b o x.dH∧k_ w b (o+1) x.dB∧k_ w b (o+2) x.ei∧k_ w b (o+3) x.aE∧k_ w b (o+4) x.n
theorem jZ.kept:zu jZ:=fun _ _ _ _ _ aa J ⟨aj,I,U,ae,aJ⟩=>⟨aj.kept aa J,I.kept aa J,U.kept aa J,ae.kept aa J,aJ.kept aa J⟩
def kU (w:World) (b o:Nat) (x:jm):Prop:=sg w b o x.ag∧k_ w b (o+1) x.d_∧k_ w b (o+2) x.eo∧k_ w b (o+3) x.cy∧k_ w b (o+4) x.bE∧qn (cH 5 jZ) w b (o+5) x.rows
theorem kU.kept:zu kU:=fun _ _ _ _ _ aa J ⟨aj,I,U,ae,aJ,bp⟩=>⟨aj.kept aa J,I.kept aa J,U.kept aa J,ae.kept aa J,aJ.kept aa J,bp.kept (fun _ h=>h.kept jZ.kept aa) aa J⟩
def fL (w:World) (b o:Nat) (x:lE):Prop:=sg w b o x.ag∧k_ w b (o+1) x.k∧k_ w b (o+2) x.e
theorem fL.kept:zu fL:=fun _ _ _ _ _ aa J ⟨aj,I,U⟩=>⟨aj.kept aa J,I.kept aa J,U.kept aa J⟩
def kt (w:World) (v:Value) (xs:List cz):Prop:=zw w v xs∧xs.length≤8796093022208∧∀x∈xs,-9223372036854775808≤x.n∧x.n≤9223372036854775807
theorem kt.kept {w w':World} {v:Value} {xs:List cz} (h:kt w v xs) (aa:Kept w w'):kt w' v xs:=⟨h.1.kept aa,h.2⟩
def mv (w:World) (b o:Nat) (x:bf):Prop:=sg w b o x.ag∧k_ w b (o+1) x.bK∧k_ w b (o+2) x.bD∧k_ w b (o+3) x.fa∧k_ w b (o+4) x.dH∧k_ w b (o+5) x.dB∧
 qn kt w b (o+6) x.g∧qn kt w b (o+7) x.v∧sg w b (o+8) x.src
theorem mv.kept:zu mv:=fun _ _ _ _ _ aa J ⟨aj,I,U,ae,aJ,bp,eJ,kc,et⟩=>
 ⟨aj.kept aa J,I.kept aa J,U.kept aa J,ae.kept aa J,aJ.kept aa J,bp.kept aa J,eJ.kept (fun _ h=>h.kept aa) aa J,kc.kept (fun _ h=>h.kept aa) aa J,et.kept aa J⟩
def sA (w:World) (b o:Nat) (x:bP):Prop:=sg w b o x.ag∧k_ w b (o+1) x.ms∧qn (cH 3 fL) w b (o+2) x.ins∧qn (cH 3 fL) w b (o+3) x.ds∧qn (cH 9 mv) w b (o+4) x.rs
theorem sA.kept:zu sA:=fun _ _ _ _ _ aa J ⟨aj,I,U,ae,aJ⟩=>
 ⟨aj.kept aa J,I.kept aa J,U.kept (fun _ h=>h.kept fL.kept aa) aa J,ae.kept (fun _ h=>h.kept fL.kept aa) aa J,aJ.kept (fun _ h=>h.kept mv.kept aa) aa J⟩
def gy (w:World) (v:Value) (l:cZ):Prop:=∃c_ b4 b2,v= .agg #[c_,b4,b2]∧cH 2 n_ w c_ l.bm∧cH 6 kU w b4 l.tb∧cH 5 sA w b2 l.sc
theorem gy.kept {w w':World} {v:Value} {l:cZ} (h:gy w v l) (aa:Kept w w'):gy w' v l:=by
 obtain⟨c_,b4,b2,ay,aj,I,U⟩:=h;exact⟨c_,b4,b2,ay,aj.kept n_.kept aa,I.kept kU.kept aa,U.kept sA.kept aa⟩
def dG (s:List Bool) (e:Int):Bool:=s[e.toNat]?.getD false
def mn:List Int→List Bool→List Int→List Bool×List Int
 |[],s,q=>(s,q)
 |e::es,s,q=>if dG s e then mn es s q else mn es (s.set e.toNat true) (q++[e])
def wM (bF:List (List Int)):Nat→List Bool→List Int→List Bool
 |0,s,_=>s
 |_+1,s,[]=>s
 |F+1,s,d::q=>wM bF F (mn (bF[d.toNat]?.getD []) s q).1 (mn (bF[d.toNat]?.getD []) s q).2
def ot (s:List Bool):Nat:=s.countP fun b=> !b
def gU (n:Nat) (l:List Int):Prop:=∀e∈l,0≤e∧e<n
theorem Fj {s:List Bool} {e f:Int} (he:0≤e∧e<s.length) (bO:0≤f):dG (s.set e.toNat true) f=true↔dG s f=true∨f=e:=by
 unfold dG;rw[List.getElem?_set];by_cases h:e.toNat=f.toNat
 ·rw[if_pos h,if_pos (by omega)];simp only[Option.getD_some,true_iff];exact .inr (by omega)
 ·rw[if_neg h];exact⟨.inl,fun bb=>bb.resolve_right (by omega)⟩
theorem OC {s:List Bool} {e:Int} (he:0≤e∧e<s.length) (h:dG s e=false):ot (s.set e.toNat true)+1=ot s:=by
 have aq:e.toNat<s.length:=by omega
 unfold dG at h;rw[a8 aq,Option.getD_some]at h;unfold ot;rw[List.countP_set aq,h];simp;have:0<s.countP fun b=> !b:=List.countP_pos_iff.2 ⟨s[e.toNat],List.getElem_mem aq,by rw[h];rfl⟩;omega
theorem aae:∀(es:List Int) (s:List Bool) (q:List Int),gU s.length es→
  (mn es s q).1.length=s.length∧(∀e,0≤e→(dG (mn es s q).1 e=true↔dG s e=true∨e∈es))∧(∀x,x∈(mn es s q).2↔x∈q∨(x∈es∧dG s x=false))∧2*ot (mn es s q).1+(mn es s q).2.length≤2*ot s+q.length:=by
 intro es;induction es with
 |nil=>intro s q _;exact⟨rfl,fun e _=>by simp[mn],fun x=>by simp[mn],Nat.le_refl _⟩
 |cons a es bH=>
  intro s q aw;have aZ:=aw a (List.mem_cons_self ..);have eF:gU s.length es:=fun e h=>aw e (List.mem_cons_of_mem _ h);rw[mn]
  cases ax:dG s a
  ·rw[if_neg (by simp)];obtain⟨I,U,ae,aJ⟩:=bH (s.set a.toNat true) (q++[a]) (by rw[List.length_set];exact eF);rw[List.length_set]at I;refine⟨I,fun e he=> ?_,fun x=> ?_,?_⟩
   ·rw[U e he,Fj aZ he,List.mem_cons,or_assoc]
   ·rw[ae,List.mem_append,List.mem_singleton,List.mem_cons];constructor
    ·rintro ((h|h)|⟨h,dp⟩)
     ·exact .inl h
     ·rw[h];exact .inr ⟨.inl rfl,ax⟩
     ·refine .inr ⟨.inr h,?_⟩
      cases af:dG s x
      ·rfl
      ·rw[(Fj aZ (eF x h).1).2 (.inl af)]at dp;cases dp
    ·rintro (h|⟨h|h,dp⟩)
     ·exact .inl (.inl h)
     ·exact .inl (.inr h)
     ·by_cases YF:x=a
      ·exact .inl (.inr YF)
      ·refine .inr ⟨h,?_⟩
       cases af:dG (s.set a.toNat true) x
       ·rfl
       ·rcases (Fj aZ (eF x h).1).1 af with bp|bp
        ·rw[bp]at dp;cases dp
        ·exact absurd bp YF
   ·have:=OC aZ ax;rw[List.length_append,List.length_singleton]at aJ;omega
  ·rw[if_pos rfl];obtain⟨I,U,ae,aJ⟩:=bH s q eF;refine⟨I,fun e he=> ?_,fun x=> ?_,aJ⟩
   ·rw[U e he,List.mem_cons];exact⟨fun h=>h.imp id .inr,fun h=>h.elim .inl fun h=>h.elim (fun h=> .inl (h▸ax)) .inr⟩
   ·rw[ae,List.mem_cons];exact⟨fun h=>h.imp id fun⟨h,dp⟩=>⟨.inr h,dp⟩,fun h=>h.imp id fun⟨h,dp⟩=>⟨h.resolve_left (fun e=>by rw[e,ax]at dp;cases dp),dp⟩⟩
inductive nN (bF:List (List Int)) (d:Int):Int→Prop
 |one {e:Int}:e∈bF[d.toNat]?.getD []→nN bF d e
 |step {e f:Int}:nN bF d e→f∈bF[e.toNat]?.getD []→nN bF d f
theorem nN.ES {bF:List (List Int)} {n:Nat} {d e:Int} (aK:∀d:Int,gU n (bF[d.toNat]?.getD [])) (h:nN bF d e):0≤e∧e<n:=by
 cases h with
 |one h=>exact aK _ _ h
 |step _ h=>exact aK _ _ h
theorem acO {bF:List (List Int)} {n:Nat} {d0:Int} (aK:∀d:Int,gU n (bF[d.toNat]?.getD [])):∀(F:Nat) (s:List Bool) (q:List Int),s.length=n→2*ot s+q.length<F→
  (∀e,0≤e→dG s e=true→nN bF d0 e)→(∀d∈q,d=d0∨(0≤d∧dG s d=true))→(∀d,(d=d0∨(0≤d∧dG s d=true))→d∈q∨∀e∈bF[d.toNat]?.getD [],dG s e=true)→
  ∀e,0≤e→(dG (wM bF F s q) e=true↔nN bF d0 e):=by
 intro F;induction F with
 |zero=>intro s q _ h;omega
 |succ F bH=>
  intro s q aA hF aZ J ah;match q with
  |[]=>
   intro e he;rw[wM];refine⟨aZ e he,fun h=> ?_⟩;have oY:∀d,(d=d0∨(0≤d∧dG s d=true))→∀e∈bF[d.toNat]?.getD [],dG s e=true:=fun d av=>(ah d av).resolve_left (by simp);have:0≤e∧dG s e=true:=by
    induction h with
    |one h=>exact⟨(aK _ _ h).1,oY d0 (.inl rfl) _ h⟩
    |step I U ae=>exact⟨(aK _ _ U).1,oY _ (.inr (ae (I.ES aK).1)) _ U⟩
   exact this.2
  |d::q=>
   rw[wM];obtain⟨I,U,ae,aJ⟩:=aae (bF[d.toNat]?.getD []) s q (by rw[aA];exact aK d);refine bH _ _ (I.trans aA) (by rw[List.length_cons]at hF;omega) ?_ ?_ ?_
   ·intro e he ax;rcases (U e he).1 ax with h|h
    ·exact aZ e he h
    ·rcases J d (List.mem_cons_self ..)with rfl|⟨ll,av⟩
     ·exact .one h
     ·exact .step (aZ d ll av) h
   ·intro x af;rcases (ae x).1 af with h|⟨h,-⟩
    ·rcases J x (List.mem_cons_of_mem _ h)with h|⟨aj,h⟩
     ·exact .inl h
     ·exact .inr ⟨aj,(U x aj).2 (.inl h)⟩
    ·have aj:=(aK _ _ h).1;exact .inr ⟨aj,(U x aj).2 (.inr h)⟩
   ·intro x af;have hold:(x=d0∨(0≤x∧dG s x=true))→x∈(mn (bF[d.toNat]?.getD []) s q).2∨∀e∈bF[x.toNat]?.getD [],dG (mn (bF[d.toNat]?.getD []) s q).1 e=true:=by
     intro af;rcases ah x af with h|h
     ·rcases List.mem_cons.1 h with rfl|h
      ·exact .inr fun e he=>(U e (aK _ _ he).1).2 (.inr he)
      ·exact .inl ((ae x).2 (.inl h))
     ·exact .inr fun e he=>(U e (aK _ _ he).1).2 (.inl (h e he))
    rcases af with h|⟨aj,h⟩
    ·exact hold (.inl h)
    ·rcases (U x aj).1 h with h|h
     ·exact hold (.inr ⟨aj,h⟩)
     ·cases ax:dG s x
      ·exact .inl ((ae x).2 (.inr ⟨h,ax⟩))
      ·exact hold (.inr ⟨aj,ax⟩)
def qY (bF:List (List Int)) (n:Nat) (d0:Int):List Int:=((List.range n).filter fun i:Nat=>dG (wM bF (2*n+2) (List.replicate n false) [d0]) (i:Int)).map fun i:Nat=>(i:Int)
theorem Mk (n:Nat) (e:Int):dG (List.replicate n false) e=false:=by
 unfold dG;rw[List.getElem?_replicate];split<;>rfl
theorem agY {bF:List (List Int)} {n:Nat} {d0:Int} (aK:∀d:Int,gU n (bF[d.toNat]?.getD [])) (e:Int):e∈qY bF n d0↔nN bF d0 e:=by
 have h:=acO (d0:=d0) aK (2*n+2) (List.replicate n false) [d0] (List.length_replicate ..) (by unfold ot;rw[List.countP_replicate];simp) (fun e _ h=>by rw[Mk]at h;cases h)
  (fun d av=> .inl (List.mem_singleton.1 av)) (fun d av=>av.elim (fun h=> .inl (by rw[h];simp)) fun⟨_,h⟩=>by rw[Mk]at h;cases h)
 unfold qY;simp only[List.mem_map,List.mem_filter,List.mem_range];constructor
 ·rintro⟨i,⟨_,ax⟩,rfl⟩;exact (h _ (by omega)).1 ax
 ·intro aH;have aj:0≤e∧e<n:=aH.ES aK;refine⟨e.toNat,⟨by omega,?_⟩,by omega⟩;rw[show ((e.toNat:Nat):Int)=e by omega];exact (h e aj.1).2 aH
def v0:bg:=⟨0,0,0⟩
structure dC where
 dt:Int
 ins:List bg
 ds:List bg
 ms:List (List bg)
 mt:List cO
 tb:List jm
structure gm where
 sc:cz→bg→bg→bg×Int
 qv:jm→Int→Int→Int→Int×Int
def gH (v:bg):Bool:=decide ((v.k=6∨v.e=0)∧((v.k=1∧(v.n=0∨v.n=1))∨(v.k=2∧ -1000000000000≤v.n∧v.n≤1000000000000)∨(v.k=3∧ -1000000000000000≤v.n∧v.n≤1000000000000000)∨
 (v.k=4∧ -1000000000≤v.n∧v.n≤1000000000)∨(v.k=5∧0≤v.n∧v.n≤109572)∨(v.k=6∧0≤v.e∧v.e<8∧0≤v.n∧v.n<16)))
def yV (o:Int):Bool:=decide ((1≤o∧o≤8)∨(14≤o∧o≤16)∨o=33∨o=34∨(36≤o∧o≤39))
def v7 (x:cz):Bool:=decide (0≤dY x.o∧(x.n=0∨yV x.o=true)∧(14≤x.o→x.o≤16→0≤x.n∧x.n≤5)∧(x.o=34→0≤x.n∧x.n% 8≤5)∧(x.o=6→0≤x.n))
def lL (n:Int) (l:Nat):Bool:=decide (0≤n∧n<l)
def qB (x:cz) (E:dC):Bool:=
 if x.o=7 then lL x.n E.ins.length
 else if x.o=8 then lL x.n E.ds.length&&decide ((E.ds[x.n.toNat]?.getD v0).k≠0)
 else if x.o=33 then lL x.n E.tb.length
 else if x.o=34 then decide (x.n/8<E.tb.length)
 else if 36≤x.o∧x.o≤39 then lL x.n E.mt.length
 else true
def Iy (a b:bg):Bool:=decide (a.k=b.k∧a.e=b.e)
def lU (k:Int):Bool:=decide (k=2∨k=3∨k=4)
def tX (v:bg) (k e:Int):Bool:=gH v&&decide (v.k=k∧v.e=e)
def Ic (o:Int) (t:cO):Bool:=decide (t.e=0∧((o=36∧(t.k=2∨t.k=3))∨(o=39∧(t.k=2∨t.k=3∨t.k=4∨t.k=5))∨(o≠36∧o≠39∧t.k=1)))
def IK (o k:Int):Bool:=decide ((o=10∧(k=2∨k=3∨k=4))∨(o=25∧k=1)∨(o≠10∧o≠25∧k=5))
def ve (o:Int) (a b:bg):Bool:=decide (
 if o=11∨o=12 then (a.k=b.k∧a.e=b.e)∧(a.k=2∨a.k=3∨a.k=4)
 else if o=13 then b.k=2∧(a.k=2∨a.k=3)
 else if o=14 then b.k=4∧(a.k=3∨a.k=4)
 else if o=15 then (b.k=2∧(a.k=2∨a.k=3))∨(b.k≠2∧a.k=3∧b.k=3)
 else if o=16 then a.k=3∧b.k=3
 else if o=17∨o=18∨o=21∨o=22 then (a.k=b.k∧a.e=b.e)∧(a.k=2∨a.k=3∨a.k=4∨a.k=5)
 else if o=19∨o=20 then a.k=b.k∧a.e=b.e
 else if o=23∨o=24 then a.k=1∧b.k=1
 else if o=27∨o=28 then a.k=5∧b.k=2
 else a.k=5∧b.k=5)
def r_:jm:=⟨⟨#[]⟩,0,0,0,0,[]⟩
def gO (x:cz) (args:List bg) (E:dC):Bool:=
 if x.o=7 then gH (E.ins[x.n.toNat]?.getD v0)
 else if x.o=8 then gH (E.ds[x.n.toNat]?.getD v0)
 else if x.o=33 then tX (args[0]?.getD v0) (E.tb[x.n.toNat]?.getD r_).d_ (E.tb[x.n.toNat]?.getD r_).eo&&(decide (1≤(E.tb[x.n.toNat]?.getD r_).cy)&&decide ((E.tb[x.n.toNat]?.getD r_).cy≤6))
 else if x.o=34 then decide ((args[0]?.getD v0).k=3)&&(decide ((E.tb[(x.n/8).toNat]?.getD r_).d_=3∧(E.tb[(x.n/8).toNat]?.getD r_).eo=0)&&decide ((E.tb[(x.n/8).toNat]?.getD r_).cy=4∧(E.tb[(x.n/8).toNat]?.getD r_).bE=0))
 else if 36≤x.o∧x.o≤39 then Ic x.o (E.mt[x.n.toNat]?.getD ⟨0,0⟩)
 else match args with
  |[a]=>IK x.o a.k
  |[a,b]=>ve x.o a b
  |[a,b,c]=>decide (a.k=1)&&Iy b c
  |_=>true
def oK (b:Bool):bg:=⟨1,0,if b then 1 else 0⟩
def wO (f t d:Int):Bool:=decide (0≤f∧f≤t∧t≤109573∧f≤d∧d<t)
def s9 (d k:Int) (r:kT):Bool:=wO r.dH r.dB d&&decide (r.ei≤k∧k<r.aE)
def kJ (o:Int) (q:Nat) (t:cO):Nat→List (List bg)→bg→bg×Int
 |_,[],acc=>(acc,0)
 |i,m::r,acc=>
  if m.length≤q∨(m[q]?.getD v0).k=0 then (v0,6)
  else if tX (m[q]?.getD v0) t.k t.e=false then (v0,8)
  else if o=36 then (if gH {acc with n:=acc.n+(m[q]?.getD v0).n} then kJ o q t (i+1) r {acc with n:=acc.n+(m[q]?.getD v0).n} else (v0,3))
  else if o=37 then kJ o q t (i+1) r {acc with n:=min acc.n (m[q]?.getD v0).n}
  else if o=38 then kJ o q t (i+1) r {acc with n:=max acc.n (m[q]?.getD v0).n}
  else if o=39 then kJ o q t (i+1) r (if i=0∨acc.n<(m[q]?.getD v0).n then m[q]?.getD v0 else acc)
  else kJ o q t (i+1) r acc
def yI (x:cz) (E:dC):bg×Int:=
 if x.o=39∧E.ms.length=0 then (v0,6)else kJ x.o x.n.toNat (E.mt[x.n.toNat]?.getD ⟨0,0⟩) 0 E.ms ⟨(E.mt[x.n.toNat]?.getD ⟨0,0⟩).k,(E.mt[x.n.toNat]?.getD ⟨0,0⟩).e,if x.o=37 then 1 else 0⟩
noncomputable def CS (o:Int) (a:bg):bg:=
 if o=10 then⟨a.k,0,-a.n⟩else if o=25 then oK (decide (a.n=0))else if o=31 then⟨2,0,(dU a.n).1⟩else⟨2,0,(dU a.n).2.1⟩
noncomputable def ng (Lf:gm) (x:cz) (a b:bg):bg×Int:=
 if x.o=11∨x.o=27 then (⟨a.k,0,a.n+b.n⟩,0)
 else if x.o=12 then (⟨a.k,0,a.n-b.n⟩,0)
 else if 13≤x.o∧x.o≤16 then Lf.sc x a b
 else if x.o=17∨x.o=18 then ((if (x.o=17)=(b.n<a.n)then b else a),0)
 else if x.o=19 then (oK (decide (a.n=b.n)),0)
 else if x.o=20 then (oK (decide (a.n≠b.n)),0)
 else if x.o=21 then (oK (decide (a.n<b.n)),0)
 else if x.o=22 then (oK (decide (a.n≤b.n)),0)
 else if x.o=23 then (oK (decide (a.n=1∧b.n=1)),0)
 else if x.o=24 then (oK (decide (a.n=1∨b.n=1)),0)
 else if x.o=28 then (⟨5,0,(nf a.n b.n).1⟩,(nf a.n b.n).2)
 else if x.o=29 then (⟨2,0,b.n-a.n⟩,0)
 else (⟨2,0,y1 a.n b.n⟩,0)
noncomputable def e1 (Lf:gm) (x:cz) (args:List bg) (E:dC):bg×Int:=
 if 1≤x.o∧x.o≤5 then (⟨x.o,0,x.n⟩,0)
 else if x.o=6 then (⟨6,x.n/16,x.n% 16⟩,0)
 else if x.o=7 then (E.ins[x.n.toNat]?.getD v0,0)
 else if x.o=8 then (E.ds[x.n.toNat]?.getD v0,0)
 else if x.o=9 then (⟨5,0,E.dt⟩,0)
 else if x.o=35 then (⟨2,0,E.ms.length⟩,0)
 else if 36≤x.o∧x.o≤39 then yI x E
 else if x.o=33 then
  (match (E.tb[x.n.toNat]?.getD r_).rows.find? (s9 E.dt (args[0]?.getD v0).n)with
  |none=>(v0,6)
  |some r=>(⟨(E.tb[x.n.toNat]?.getD r_).cy,(E.tb[x.n.toNat]?.getD r_).bE,r.n⟩,0))
 else if x.o=34 then (⟨3,0,(Lf.qv (E.tb[(x.n/8).toNat]?.getD r_) E.dt (args[0]?.getD v0).n (x.n% 8)).1⟩,(Lf.qv (E.tb[(x.n/8).toNat]?.getD r_) E.dt (args[0]?.getD v0).n (x.n% 8)).2)
 else match args with
  |[a]=>(CS x.o a,0)
  |[a,b]=>ng Lf x a b
  |[a,b,c]=>(if a.n=1 then b else c,0)
  |_=>(v0,0)
noncomputable def pD (Lf:gm) (x:cz) (args:List bg) (E:dC):bg×Int:=
 if v7 x=false∨(args.length:Int)≠dY x.o then (v0,2)
 else if qB x E=false then (v0,6)
 else if args.all gH=false∨gO x args E=false then (v0,8)
 else if (e1 Lf x args E).2≠0 then (v0,(e1 Lf x args E).2)
 else if gH (e1 Lf x args E).1=false then (v0,3)
 else ((e1 Lf x args E).1,0)
def rz (f:Int→bg×Int):List Int→List bg→List bg×Int
 |[],acc=>(acc,0)
 |i::r,acc=>if (f i).2≠0 then ([],(f i).2)else rz f r (acc++[(f i).1])
def nh (r:bg×Int):bg×Int:=if r.2≠0 then (v0,r.2)else if r.1.k≠1∨gH r.1=false then (v0,8)else (r.1,0)
def yz (x:cz) (f:Nat→bg×Int):bg×Int:=
 if x.n≠0 then (v0,2)
 else if (nh (f 0)).2≠0 then (v0,(nh (f 0)).2)
 else if x.o=26 then (if (nh (f 0)).1.n=1 then f 1 else f 2)
 else if (x.o=23)=((nh (f 0)).1.n=0)then ((nh (f 0)).1,0)
 else nh (f 1)
noncomputable def fY (Lf:gm) (E:dC) (e:List cz) (di:List Nat):Nat→Int→bg×Int
 |0,_=>(v0,0)
 |F+1,at_=>
  if (e[at_.toNat]?.getD ⟨0,0⟩).o=23∨(e[at_.toNat]?.getD ⟨0,0⟩).o=24∨(e[at_.toNat]?.getD ⟨0,0⟩).o=26 then
   yz (e[at_.toNat]?.getD ⟨0,0⟩) (fun j=>fY Lf E e di F ((qU di (dY (e[at_.toNat]?.getD ⟨0,0⟩).o).toNat (at_-1) [])[j]?.getD 0))
  else if (rz (fY Lf E e di F) (qU di (dY (e[at_.toNat]?.getD ⟨0,0⟩).o).toNat (at_-1) []) []).2≠0 then (v0,(rz (fY Lf E e di F) (qU di (dY (e[at_.toNat]?.getD ⟨0,0⟩).o).toNat (at_-1) []) []).2)
  else pD Lf (e[at_.toNat]?.getD ⟨0,0⟩) (rz (fY Lf E e di F) (qU di (dY (e[at_.toNat]?.getD ⟨0,0⟩).o).toNat (at_-1) []) []).1 E
noncomputable def iy (Lf:gm) (E:dC) (e:List cz):bg×Int:=
 if (cF e).2.2≠0 then (v0,(cF e).2.2)else fY Lf E e (cF e).1 e.length (e.length-1)
structure xz (E eT:dC) (e:List cz):Prop where
 dt:E.dt=eT.dt
 ins:E.ins=eT.ins
 mt:E.mt=eT.mt
 tb:E.tb=eT.tb
 dl:E.ds.length=eT.ds.length
 mJ:E.ms.length=eT.ms.length
 ds:∀x∈e,x.o=8→0≤x.n→E.ds[x.n.toNat]?=eT.ds[x.n.toNat]?
 ms:∀x∈e,36≤x.o→x.o≤39→0≤x.n→∀(j:Nat) (m k2:List bg),E.ms[j]?=some m→eT.ms[j]?=some k2→m[x.n.toNat]?=k2[x.n.toNat]?
theorem ahJ (o:Int) (q:Nat) (t:cO):∀(l p0:List (List bg)) (i:Nat) (acc:bg),l.length=p0.length→(∀(j:Nat) (m k2:List bg),l[j]?=some m→p0[j]?=some k2→m[q]?=k2[q]?)→kJ o q t i l acc=kJ o q t i p0 acc:=by
 intro l;induction l with
 |nil=>
  intro p0 i acc aq _;rw[List.length_eq_zero_iff.1 aq.symm]
 |cons m r bH=>
  intro p0 i acc aq h;match p0,aq with
  |k2::oE,aq=>
   have aj:=h 0 m k2 rfl rfl;have aH:∀i acc,kJ o q t i r acc=kJ o q t i oE acc:=fun i acc=>bH oE i acc (by simpa using aq) (fun j a d' aZ ha'=>h (j+1) a d' (by simpa using aZ) (by simpa using ha'));have au:(m.length≤q)=(k2.length≤q):=by
    rw[←List.getElem?_eq_none_iff,←List.getElem?_eq_none_iff,aj]
   unfold kJ;simp only[aj,au,aH]
theorem xz.apply {Lf:gm} {E eT:dC} {e:List cz} (h:xz E eT e) {x:cz} (af:x∈e) (args:List bg):pD Lf x args E=pD Lf x args eT:=by
 by_cases aA:(x.o=8∨36≤x.o∧x.o≤39)∧¬0≤x.n
 ·have az:∀l,lL x.n l=false:=fun l=>by unfold lL;exact decide_eq_false (fun h=>aA.2 h.1)
  have hex:∀E,qB x E=false:=fun E=>by
   unfold qB;rcases aA.1 with et|et
   ·rw[if_neg (by omega),if_pos et,az];rfl
   ·rw[if_neg (by omega),if_neg (by omega),if_neg (by omega),if_neg (by omega),if_pos et,az]
  unfold pD;rw[hex,hex];simp only[if_true]
 have av:x.o=8→E.ds[x.n.toNat]?=eT.ds[x.n.toNat]?:=fun et=>h.ds x af et (Decidable.not_not.1 fun bb=>aA ⟨.inl et,bb⟩);have hex:qB x E=qB x eT:=by
  unfold qB;rw[h.ins,h.dl,h.tb,h.mt];by_cases et:x.o=8
  ·rw[av et]
  ·simp only[et,if_false]
 have js:gO x args E=gO x args eT:=by
  unfold gO;rw[h.ins,h.tb,h.mt];by_cases et:x.o=8
  ·rw[av et]
  ·simp only[et,if_false]
 have sM:e1 Lf x args E=e1 Lf x args eT:=by
  unfold e1;rw[h.ins,h.tb,h.dt,h.mJ];by_cases et:x.o=8
  ·rw[av et];simp[et]
  ·by_cases hm:36≤x.o∧x.o≤39
   ·have aL:yI x E=yI x eT:=by
     unfold yI;rw[h.mt,h.mJ,ahJ x.o x.n.toNat _ E.ms eT.ms 0 _ h.mJ (h.ms x af hm.1 hm.2 (Decidable.not_not.1 fun bb=>aA ⟨.inr hm,bb⟩))]
    rw[aL];simp only[et,if_false]
   ·simp only[et,hm,if_false]
 unfold pD;rw[hex,js,sM]
theorem xz.node {Lf:gm} {E eT:dC} {e:List cz} (h:xz E eT e) (aj:∀args,pD Lf ⟨0,0⟩ args E=pD Lf ⟨0,0⟩ args eT) (di:List Nat):∀(F:Nat) (at_:Int),fY Lf E e di F at_=fY Lf eT e di F at_:=by
 intro F;induction F with
 |zero=>intro at_;rfl
 |succ F bH=>
  intro at_;have bO:fY Lf E e di F=fY Lf eT e di F:=funext bH;have aZ:∀args,pD Lf (e[at_.toNat]?.getD ⟨0,0⟩) args E=pD Lf (e[at_.toNat]?.getD ⟨0,0⟩) args eT:=fun args=>by
   cases ai:e[at_.toNat]? with
   |none=>exact aj args
   |some x=>exact h.apply (List.mem_of_getElem? ai) args
  unfold fY;rw[bO,aZ]
theorem xz.eval {Lf:gm} {E eT:dC} {e:List cz} (h:xz E eT e):iy Lf E e=iy Lf eT e:=by
 unfold iy;rw[h.node (fun args=> ?_)];unfold pD;rw[if_pos (.inl (by decide)),if_pos (.inl (by decide))]
def yW (m:Int):Bool:=decide (0≤m)&&decide (m≤5)
theorem o9 (m:Int) (w:World):Calls prog 208 #[m] w fun e w'=>e= .returned (.bool (yW m))∧w=w':=by
 go_enter func208,ntmps208
 go_wp2_with fail
 all_goals
  go_ret;exact⟨eD (by simp[yW, *]<;>omega),rfl⟩
theorem xo (m:Int) (w:World):Calls prog 215 #[m] w fun e w'=>e= .returned (.bool (yW m))∧w=w':=by
 go_enter func215,ntmps215
 go_wp2_with fail
 all_goals
  go_ret;exact⟨eD (by simp[yW, *]<;>omega),rfl⟩
def ix (n l:Int):Bool:=decide (l<n)||decide (n< -l)
theorem ui (n l:Int) (w:World) (aq:0≤l∧l≤9223372036854775807):Calls prog 48 #[n,l] w fun e w'=>e= .returned (.bool (ix n l))∧w=w':=by
 obtain⟨I,U⟩:=aq;go_enter func48,ntmps48
 go_wp2_with fail
 all_goals
  go_ret;exact⟨eD (by simp[ix, *]),rfl⟩
theorem CM (n l:Int) (w:World) (aq:0≤l∧l≤9223372036854775807):Calls prog 216 #[n,l] w fun e w'=>e= .returned (.bool (ix n l))∧w=w':=by
 obtain⟨I,U⟩:=aq;go_enter func216,ntmps216
 go_wp2_with fail
 all_goals
  go_ret;exact⟨eD (by simp[ix, *]),rfl⟩
theorem Ib (n:Int) (w:World) (h: -9223372036854775808≤n∧n≤9223372036854775807):Calls prog 209 #[n] w fun e w'=>e= .returned (.int .u64 (n.natAbs:Nat))∧w=w':=by
 obtain⟨I,U⟩:=h;by_cases aA:n<0
 ·go_enter func209,ntmps209
  go_wp2_with fail
  go_ret;exact⟨uz (by simp[IntKind.wrap,IntKind.bits,IntKind.signed];omega),rfl⟩
 ·go_enter func209,ntmps209
  go_wp2_with fail
  go_ret;exact⟨uz (by omega),rfl⟩
def Fq (q r e:Nat) (neg:Bool) (m:Int):Bool:=
 if m=0 then neg else if m=1 then !neg else if m=3 then true else if m=4 then decide (e≤r)
 else if m=5 then decide (e<r)||(decide (r=e)&&decide (q% 2=1))else false
def AI (q r e:Nat) (neg:Bool) (m:Int):Nat:=if r=0 then q else if Fq q r e neg m then q+1 else q
theorem Zw (m:Int):m=0∨m=1∨m=3∨m=4∨m=5∨(¬m=0∧¬m=1∧¬m=3∧¬m=4∧¬m=5):=by omega
theorem aao (q r d e:Nat) (neg:Bool) (m:Int) (w:World) (ax:IntKind.u64.wrap ((d:Int)-r)=e) (au:q+1<18446744073709551616):
  Calls prog 210 #[.int .u64 q,.int .u64 r,.int .u64 d,.bool neg,m] w fun x w'=>x= .returned (.int .u64 (AI q r e neg m))∧w=w':=by
 rcases Zw m with rfl|rfl|rfl|rfl|rfl|⟨m1,m2,m3,m4,m5⟩
 all_goals
  cases neg
  all_goals
   go_enter func210,ntmps210
   go_wp2_with fail
   all_goals
    go_ret;exact⟨uz (by simp[AI,Fq, *]<;>(repeat' split)<;>first|omega|(simp at*;omega)),rfl⟩
theorem aiv (q r d e:Nat) (neg:Bool) (m:Int) (w:World) (ax:IntKind.u64.wrap ((d:Int)-r)=e) (au:q<18446744073709551616):
  Calls prog 217 #[.int .u64 q,.int .u64 r,.int .u64 d,.bool neg,m] w fun x w'=>x= .returned (.bool (decide (r≠0)&&Fq q r e neg m))∧w=w':=by
 rcases Zw m with rfl|rfl|rfl|rfl|rfl|⟨m1,m2,m3,m4,m5⟩
 all_goals
  cases neg
  all_goals
   go_enter func217,ntmps217
   go_wp2_with fail
   all_goals
    go_ret;exact⟨eD (by rw[Bool.eq_iff_iff];(try simp[Fq, *]);(try simp at*);(try omega)),rfl⟩
theorem aaE (q:Nat) (neg:Bool) (w:World) (au:q≤9223372036854775807):Calls prog 211 #[.int .u64 q,.bool neg] w fun e w'=>e= .returned (.int .i64 (if neg then -(q:Int)else q))∧w=w':=by
 cases neg
 all_goals
  go_enter func211,ntmps211
  go_wp2_with fail
  go_ret;exact⟨uz (by simp),rfl⟩
theorem wrapN {n:Nat} (h:n<18446744073709551616):IntKind.u64.wrap (n:Int)=n:=by simp[IntKind.wrap,IntKind.bits,IntKind.signed];omega
def pn (f:FuncId) (args:Array Value) (v:Value):Prop:=∀w,Calls prog f args w fun e w'=>e= .returned v∧Kept w w'
def gT (n:Int):Prop:= -9223372036854775808≤n∧n≤9223372036854775807
theorem BD {n l:Int} (h:ix n l=false): -l≤n∧n≤l:=by
 simp[ix]at h;omega
theorem RP {q r e:Nat} {neg:Bool} {m:Int}:AI q r e neg m≤q+1:=by
 unfold AI;split
 ·omega
 ·split<;>omega
theorem Kh (n d m:Int) (aA:gT n) (av:gT d):∃q c:Int,gT q∧pn 191 #[n,d,m] (.tuple #[q,c]):=by
 by_cases ay:yW m=true
 case neg=>
  refine⟨0,1,⟨by decide,by decide⟩,fun w=> ?_⟩;go_enter func191,ntmps191
  go_wp2_with (go_at_call 208;refine (o9 _ _).mono ?_;rintro e w' ⟨rfl,rfl⟩)
  go_ret2
  exact⟨rfl,aQ _⟩
 by_cases aj:d=0
 ·subst aj;refine⟨0,12,⟨by decide,by decide⟩,fun w=> ?_⟩;go_enter func191,ntmps191
  go_wp2_with (go_at_call 208;refine (o9 _ _).mono ?_;rintro e w' ⟨rfl,rfl⟩)
  go_ret2
  exact⟨rfl,aQ _⟩
 have ll:(d==0)=false:=by simpa using aj
 cases bY:ix n 4611686018427387904
 case true=>
  refine⟨0,3,⟨by decide,by decide⟩,fun w=> ?_⟩;go_enter func191,ntmps191
  go_wp2_with (first|(go_at_call 208;refine (o9 _ _).mono ?_;rintro e w' ⟨rfl,rfl⟩)|(go_at_call 48;refine (ui _ _ _ (by decide)).mono ?_;rintro e w' ⟨rfl,rfl⟩))
  go_ret2
  exact⟨rfl,aQ _⟩
 cases bc:ix d 4611686018427387904
 case true=>
  refine⟨0,3,⟨by decide,by decide⟩,fun w=> ?_⟩;go_enter func191,ntmps191
  go_wp2_with (first|(go_at_call 208;refine (o9 _ _).mono ?_;rintro e w' ⟨rfl,rfl⟩)|(go_at_call 48;refine (ui _ _ _ (by decide)).mono ?_;rintro e w' ⟨rfl,rfl⟩))
  go_ret2
  exact⟨rfl,aQ _⟩
 have ak:=BD bY;have a':=BD bc;obtain⟨bG,kd⟩:∃bG,bG=n.natAbs:=⟨_,rfl⟩;obtain⟨V,dZ⟩:∃V,V=d.natAbs:=⟨_,rfl⟩;have kD:=fun w=>Ib n w aA;have iJ:=fun w=>Ib d w av;rw[←kd]at kD;rw[←dZ]at iJ;have hVp:0<V:=by omega
 have u1:bG≤4611686018427387904:=by omega
 have u2:V≤4611686018427387904:=by omega
 clear kd dZ;have au:bG/V≤bG:=Nat.div_le_self _ _;have aH:bG% V<V:=Nat.mod_lt _ hVp;have az:IntKind.u64.wrap ((bG:Int)/V)=((bG/V:Nat):Int):=wrapN (by omega);have a6:((bG:Int)% V)=((bG% V:Nat):Int):=rfl;have hV0:((V:Int)==0)=false:=by simp;omega
 have b7:IntKind.u64.wrap ((V:Int)-(bG% V:Nat))=((V-bG% V:Nat):Int):=by rw[show ((V:Int)-(bG% V:Nat))=((V-bG% V:Nat):Int) by omega];exact wrapN (by omega)
 generalize bG/V=Q at*;generalize bG% V=R at*
 cases Ev:(decide (n<0)==decide (d<0))
 case' true=>have aw:= @RP Q R (V-R) false m
 case' false=>have aw:= @RP Q R (V-R) true m
 case' true=>refine⟨AI Q R (V-R) false m,0,⟨by omega,by omega⟩,fun w=> ?_⟩
 case' false=>refine⟨-AI Q R (V-R) true m,0,⟨by omega,by omega⟩,fun w=> ?_⟩
 all_goals
  have FQ:=hid kD;have pv:=hid iJ;clear kD iJ;go_enter func191,ntmps191
  go_wp2_with (first|(go_at_call 208;refine (o9 _ _).mono ?_;rintro e w' ⟨rfl,rfl⟩)|(go_at_call 48;refine (ui _ _ _ (by decide)).mono ?_;rintro e w' ⟨rfl,rfl⟩)|(go_at_call_of 209 (Value.int IntKind.i64 n);refine (FQ.out _).mono ?_;rintro e w' ⟨rfl,rfl⟩)|(go_at_call_of 209 (Value.int IntKind.i64 d);refine (pv.out _).mono ?_;rintro e w' ⟨rfl,rfl⟩))
  refine fQ (by kernel_rfl) (by kernel_rfl) ?_
  repeat (go_big_quiet_step (exact al.pure (aao _ _ _ _ _ _ _ b7 (by omega))))
  refine wpQuiet_nil ?_;rintro _ ⟨⟨bt,cj⟩,rfl⟩;go_wp2_with (go_at_call 211;refine (aaE _ _ _ (by omega)).mono ?_;rintro e w' ⟨rfl,rfl⟩)
  go_ret2
  exact⟨rfl,cj⟩
def Mon (w:World):Prop:=∀i,i<12→w.cell? ⟨3,i,none⟩=some (.int .i64 (Ay[i]?.getD 0))
theorem Mon.lt {w:World} (h:Mon w):3<w.heap.size:=by
 have aj:=h 0 (by omega);rcases Nat.lt_or_ge 3 w.heap.size with aq|ai
 ·exact aq
 ·simp[World.cell?,Array.getElem?_eq_none ai]at aj
theorem Mon.kept {w w':World} (h:Mon w) (aa:Kept w w'):Mon w':=fun i aE=>aa.ad h.lt (h i aE)
theorem Mon.drew {w:World} (h:Mon w):Mon w.drew:=h
theorem Mon.drewN {w:World} (h:Mon w) (k:Nat):Mon (w.drewN k):=h
theorem agE (y:Int) (w:World):
  Calls prog 213 #[y] w fun e w'=>e= .returned (.bool (Ar y))∧w=w':=by
 go_enter func213,ntmps213
 go_wp2
 all_goals (go_ret;exact⟨eD (by simp_all [Ar]),rfl⟩)
theorem DX (y m:Int) (w:World) (br:Mon w):
  Calls prog 194 #[y,m] w fun e w'=>e= .returned (.int .i64 (j4 y m))∧w=w':=by
 by_cases hm:m<1
 ·go_enter func194,ntmps194
  go_wp2_with fail
  go_ret;exact⟨uz (by rw[OS (.inl hm)]),rfl⟩
 ·by_cases iJ:12<m
  ·go_enter func194,ntmps194
   go_wp2_with fail
   go_ret;exact⟨uz (by rw[OS (.inr iJ)]),rfl⟩
  ·have I:1≤m:=by omega
   have U:m≤12:=by omega
   have ah:w.cell? ⟨3,m.toNat-1,none⟩=some (.int .i64 (Ay[(m-1).toNat]?.getD 0)):=by
    have:=br (m.toNat-1) (by omega);rwa [show (m-1).toNat=m.toNat-1 from by omega]
   have cx:=br 1 (by omega);clear br hm iJ
   cases ae:(m==2)
   ·have aJ:m≠2:=by simpa using ae
    have aI:=hid (OR (y:=y) I U aJ);clear aJ cx;go_enter func194,ntmps194
    go_wp2_with fail
    go_ret;exact⟨uz (by rw[aI.out,show (m-1).toNat=m.toNat-1 from by omega]),rfl⟩
   ·obtain rfl:m=2:=by simpa using ae
    clear ah;have aI:=hid (OQ y)
    cases aq:Ar y
    all_goals
     have e7:=hid (show rZ y=_ by unfold rZ;rw[aq]);go_enter func194,ntmps194
     go_wp2_with (go_at_call 213;refine (agE _ _).mono ?_;rintro e w' ⟨rfl,rfl⟩)
     go_ret;exact⟨uz (by rw[aI.out,e7.out];rfl),rfl⟩
theorem agD (y:Int) (w:World) (aj:0≤y) (I:y≤10000):
  Calls prog 212 #[y] w fun e w'=>e= .returned (.int .i64 (CA y))∧w=w':=by
 go_enter func212,ntmps212
 go_wp2
 go_ret;exact⟨rfl,rfl⟩
theorem Y_ (y:Int) (aj:0≤y) (I:y≤10000):0≤CA y∧CA y≤3000:=by unfold CA;omega
theorem Sq (y:Int) (w:World) (aj:1900≤y) (I:y≤2300):
  Calls prog 193 #[y] w fun e w'=>e= .returned (.int .i64 (hb y))∧w=w':=by
 have bY:=Y_ (y-1) (by omega) (by omega);have bc:=Y_ 1899 (by omega) (by omega);go_enter func193,ntmps193
 go_wp2_with (go_at_call 212;refine (agD _ _ (by omega) (by omega)).mono ?_;rintro e w' ⟨rfl,rfl⟩)
 go_ret;exact⟨rfl,rfl⟩
theorem akH {y m d:Int} (h:pe y m d=false):y<1900∨(1900≤y∧2199<y)∨(1900≤y∧y≤2199∧m<1)∨(1900≤y∧y≤2199∧1≤m∧12<m)∨
  (1900≤y∧y≤2199∧1≤m∧m≤12∧d<1)∨(1900≤y∧y≤2199∧1≤m∧m≤12∧1≤d∧j4 y m<d):=by
 have dp:¬(1900≤y∧y≤2199∧1≤m∧m≤12∧1≤d∧d≤j4 y m):=by rw[←xy,h];simp
 omega
theorem KA {r:Int×Int} {a b:Int} (h:r=(a,b)):Ending.returned (.tuple #[a,b])= .returned (.tuple #[r.1,r.2]):=by rw[h]
theorem aeD {y m d:Int} {k:Nat} (h:pe y m d=true) (aa:(k:Int)=m-1):wS y m d=(hb y+gA y k+d-1,0):=by
 unfold wS nS;rw[if_pos h,show (m-1).toNat=k from by omega]
theorem aeC (y m d:Int) (w:World) (br:Mon w):
  Calls prog 200 #[y,m,d] w fun e w'=>e= .returned (.tuple #[.int .i64 (wS y m d).1,.int .i64 (wS y m d).2])∧w=w':=by
 cases ay:pe y m d
 ·have aI:=hid (show wS y m d=(0,3) by unfold wS;rw[ay];rfl);have dp:=akH ay;clear ay;rcases dp with I|⟨I,U⟩|⟨I,U,ae⟩|⟨I,U,ae,aJ⟩|⟨I,U,ae,aJ,bp⟩|⟨I,U,ae,aJ,bp,eJ⟩
  all_goals
   go_enter func200,ntmps200
   go_wp2_with (go_at_call 194;refine (DX _ _ _ br).mono ?_;rintro e w' ⟨rfl,rfl⟩)
   go_ret2
   exact⟨KA aI.out,rfl⟩
 ·have eU:=hid ay;obtain⟨I,U,ae,aJ,bp,eJ⟩:=xy.1 ay;have J:=MK y I (by omega);have av:=GH y m;clear ay;go_enter func200,ntmps200
  go_wp2_with (first|(go_at_call 194;refine (DX _ _ _ br).mono ?_;rintro e w' ⟨rfl,rfl⟩)|(go_at_call 193;refine (Sq _ _ I (by omega)).mono ?_;rintro e w' ⟨rfl,rfl⟩))
  go_loop [8,9,39] (fun x z k=>∃j:Nat,(j:Int)≤m-1∧k= .int .i64 j∧x= .int .i64 (hb y+gA y j)) (fun _ _ k=>(m-1-intOf k).toNat)
  case atStart=>exact⟨0,by omega,rfl,by simp[gA]⟩
  case round=>
   obtain⟨j,aB,rfl,rfl⟩:=hrel;have ah:=OH y j (by omega);have l8:=GH y (j+1);by_cases aD:(j:Int)<m-1
   ·go_wp2_with (go_at_call 194;refine (DX _ _ _ br).mono ?_;rintro e w' ⟨rfl,rfl⟩)
    go_round
    case rel=>exact⟨j+1,by omega,by go_num,by rw[gA];congr 1;omega⟩
    case measure=>simp only[intOf];omega
   ·have sQ:(j:Int)=m-1:=by omega
    have ann:=hid sQ;clear sQ;go_wp2_with fail
    go_ret2
    exact⟨KA (aeD eU.out ann.out),rfl⟩
theorem BK (d:Int) (w:World):
  Calls prog 192 #[d] w fun e w'=>e= .returned (.bool (iB d))∧w=w':=by
 go_enter func192,ntmps192
 go_wp2
 all_goals (go_ret;exact⟨eD (by simp[iB];try omega),rfl⟩)
theorem aam {r:Int×Int×Int} {a b c:Int} (h:r=(a,b,c)):Ending.returned (.tuple #[a,b,c])= .returned (.tuple #[r.1,r.2.1,r.2.2]):=by rw[h]
theorem ajD {n y:Int} {j:Nat} (I:1900≤y) (U:y≤2199) (aB:j<12) (aj:0≤n-hb y-gA y j) (ae:n-hb y-gA y j<j4 y (j+1)):dU n=(y,(j:Int)+1,n-hb y-gA y j+1):=by
 refine aa4 (xy.2 ⟨I,U,by omega,by omega,by omega,by omega⟩) ?_;unfold nS;rw[show ((j:Int)+1-1).toNat=j from by omega];omega
theorem Mv (n:Int) (w:World) (br:Mon w):
  Calls prog 177 #[n] w fun e w'=>e= .returned (.tuple #[.int .i64 (dU n).1,.int .i64 (dU n).2.1,.int .i64 (dU n).2.2])∧w=w':=by
 cases av:iB n
 ·have aI:=hid (ajE (af5.1 av));go_enter func177,ntmps177
  go_wp2_with (go_at_call 192;refine (BK _ _).mono ?_;rintro e w' ⟨rfl,rfl⟩)
  go_ret3
  exact⟨aam aI.out,rfl⟩
 ·have KZ:=Lu.1 av;have hY:=KZ.1;have en:=KZ.2;clear KZ;go_enter func177,ntmps177
  go_wp2_with (go_at_call 192;refine (BK _ _).mono ?_;rintro e w' ⟨rfl,rfl⟩)
  have df:=MK (1900+n/366) (by omega) (by omega);go_loop [5] (fun x=>∃y:Int,x= .int .i64 y∧1900≤y∧y≤2199∧hb y≤n) (fun x=>(2200-intOf x).toNat)
  case atStart=>exact⟨_,rfl,by omega,by omega,by omega⟩
  case round=>
   obtain⟨y,rfl,I,U,ae⟩:=hrel;clear df;by_cases aD:hb (y+1)≤n
   ·have bQ:y≠2199:=by
     rintro rfl;have:hb (2199+1)=109573:=Sp;omega
    have db:y+1≤2199:=by omega
    clear bQ;go_wp2_with (go_at_call 193;refine (Sq _ _ (by omega) (by omega)).mono ?_;rintro e w' ⟨rfl,rfl⟩)
    go_round
    case rel=>exact⟨y+1,rfl,by omega,db,aD⟩
    case measure=>simp only[intOf];omega
   ·have rO:=Fw y (by omega);have W8:=OG y;have vw:=MK y I (by omega);have rb:=hid rO;have abz:=hid W8;have alS:n<hb (y+1):=by omega
    clear rO W8 aD;go_wp2_with (go_at_call 193;refine (Sq _ _ (by omega) (by omega)).mono ?_;rintro e w' ⟨rfl,rfl⟩)
    go_loop [6,7,8,26] (fun r z l k=>∃j:Nat,j≤12∧k= .int .i64 j∧r= .int .i64 (n-hb y-gA y j)∧0≤n-hb y-gA y j) (fun _ _ _ k=>(12-intOf k).toNat)
    case atStart=>exact⟨0,by omega,rfl,by simp[gA],by simp[gA];omega⟩
    case round=>
     obtain⟨j,aB,rfl,rfl,aH⟩:=hrel;have hh:=OH y j aB;by_cases ae2:j<12
     ·have np:=GH y (j+1);by_cases EE:n-hb y-gA y j<j4 y (j+1)
      ·have aI:=hid (ajD I U ae2 aH EE);go_wp2_with (go_at_call 194;refine (DX _ _ _ br).mono ?_;rintro e w' ⟨rfl,rfl⟩)
       go_ret3
       exact⟨aam aI.out,rfl⟩
      ·go_wp2_with (go_at_call 194;refine (DX _ _ _ br).mono ?_;rintro e w' ⟨rfl,rfl⟩)
       go_round
       case rel=>exact⟨j+1,by omega,by go_num,by rw[gA];congr 1;omega,by rw[gA];omega⟩
       case measure=>simp only[intOf];omega
     ·exfalso;obtain rfl:j=12:=by omega
      have:=rb.out;have:=abz.out;omega
theorem acd {a n:Int} (h:x0 a n=false):iB a=false∨(iB a=true∧n< -3600)∨(iB a=true∧ -3600≤n∧3600<n)∨
  (iB a=true∧ -3600≤n∧n≤3600∧ju a n<0)∨(iB a=true∧ -3600≤n∧n≤3600∧0≤ju a n∧3599<ju a n):=by
 cases av:iB a
 ·exact .inl rfl
 ·have dp:¬(iB a=true∧ -3600≤n∧n≤3600∧0≤ju a n∧ju a n≤3599):=by rw[←JT,h];simp
  simp only[av,true_and]at dp;simp only[true_and];simp only[show (true=false)=False from by simp];omega
theorem Uo (a n:Int) (w:World) (br:Mon w):
  Calls prog 179 #[a,n] w fun e w'=>e= .returned (.tuple #[.int .i64 (nf a n).1,.int .i64 (nf a n).2])∧w=w':=by
 cases fF:x0 a n
 ·have aI:=hid (aca fF);have dp:=acd fF;clear fF;rcases dp with I|⟨I,U⟩|⟨I,U,ae⟩|⟨I,U,ae,aJ⟩|⟨I,U,ae,aJ,bp⟩
  case inl|inr.inl|inr.inr.inl=>
   go_enter func179,ntmps179
   go_wp2_with (go_at_call 192;refine (BK _ _).mono ?_;rintro e w' ⟨rfl,rfl⟩)
   go_ret2
   exact⟨KA aI.out,rfl⟩
  all_goals
   have J:=AN I;unfold ju at aJ
   try unfold ju at bp
   generalize bS:dU a=t at*;obtain⟨ty,ana,IG⟩:=t;dsimp only at*;go_enter func179,ntmps179
   go_wp2_with (first|(go_at_call 192;refine (BK _ _).mono ?_;rintro e w' ⟨rfl,rfl⟩)|(go_at_call 177;refine (Mv _ _ br).mono ?_;rintro e w' ⟨rfl,rfl⟩;rw[bS];dsimp only))
   go_ret2
   exact⟨KA aI.out,rfl⟩
 ·obtain⟨I,U,ae,aJ,bp⟩:=JT.1 fF;have aI:=hid (Ob fF);have J:=AN I;clear fF;have dn:=hid (show Gt a n=wS (1900+ju a n/12) (ju a n% 12+1) (min (dU a).2.2 (j4 (1900+ju a n/12) (ju a n% 12+1)))from rfl);have lP:∃k,ju a n=k∧((dU a).1-1900)*12+(dU a).2.1-1+n=k:=⟨_,rfl,rfl⟩;obtain⟨k,aa,iI⟩:=lP;rw[aa]at aJ bp dn;generalize bS:dU a=t at*;obtain⟨ty,ana,IG⟩:=t;dsimp only at*;go_enter func179,ntmps179
  have np:=OP (1900+k/12) (k% 12+1) (by omega) (by omega);go_wp2_with (first|(go_at_call 192;refine (BK _ _).mono ?_;rintro e w' ⟨rfl,rfl⟩)|(go_at_call 177;refine (Mv _ _ br).mono ?_;rintro e w' ⟨rfl,rfl⟩;rw[bS];dsimp only)|(go_at_call 194;refine (DX _ _ _ br).mono ?_;rintro e w' ⟨rfl,rfl⟩)|(go_at_call 200;refine (aeC _ _ _ _ br).mono ?_;rintro e w' ⟨rfl,rfl⟩))
  all_goals
   go_ret2
   refine⟨?_,rfl⟩;rw[aI.out,dn.out]
   first
    |rw[show min IG (j4 (1900+k/12) (k% 12+1))=IG from by omega];rfl
    |rw[show min IG (j4 (1900+k/12) (k% 12+1))=j4 (1900+k/12) (k% 12+1)from by omega];rfl
theorem akC {a b:Int} (h:AR a b=false):iB a=false∨(iB a=true∧iB b=false)∨(iB a=true∧iB b=true∧b<a):=by
 unfold AR at h
 cases aZ:iB a
 ·exact .inl rfl
 ·cases J:iB b
  ·exact .inr (.inl ⟨rfl,rfl⟩)
  ·refine .inr (.inr ⟨rfl,rfl,?_⟩);rw[aZ,J]at h;simpa using h
theorem akG (a b:Int) (w:World) (br:Mon w):
  Calls prog 180 #[a,b] w fun e w'=>e= .returned (.int .i64 (y1 a b))∧w=w':=by
 cases de:AR a b
 ·have aI:=hid (akD de);have dp:=akC de;clear de;rcases dp with I|⟨I,U⟩|⟨I,U,ae⟩
  all_goals
   go_enter func180,ntmps180
   go_wp2_with (go_at_call 192;refine (BK _ _).mono ?_;rintro e w' ⟨rfl,rfl⟩)
   go_ret;exact⟨uz aI.out.symm,rfl⟩
 ·obtain⟨I,U,ae⟩:=abo.1 de;have J:=AN I;have KT:=AN U;have db:=abq I U ae;have aeT:=(acv (j:=(dU b).1-(dU a).1) I (by omega) (by omega)).1;have PS:=akE de;clear de;generalize bS:dU a=t at*;obtain⟨ty,ana,IG⟩:=t;generalize o4:dU b=Mr at*;obtain⟨ty',tm',td'⟩:=Mr;dsimp only at*;generalize aH:nf a (12*(ty'- ty))=r at*;obtain⟨r,c⟩:=r;dsimp only at*;subst aeT;rcases PS with⟨az,a6⟩|⟨az,a6,b7⟩
  all_goals
   have cv:=hid az;clear az;go_enter func180,ntmps180
   go_wp2_with (first|(go_at_call 192;refine (BK _ _).mono ?_;rintro e w' ⟨rfl,rfl⟩)|(go_at_call 177;refine (Mv _ _ br).mono ?_;rintro e w' ⟨rfl,rfl⟩;first|rw[bS]|rw[o4];dsimp only)|(go_at_call 179;refine (Uo _ _ _ br).mono ?_;rintro e w' ⟨rfl,rfl⟩;rw[aH];dsimp only))
   all_goals (go_ret;exact⟨uz (by rw[cv.out];try omega),rfl⟩)
theorem zA.at_ {w:World} {v:Value} {c1:List sz} (h:zA w v c1):∃A cap,v= .slice A c1.length cap∧c1.length≤9223372036854775807∧(0<c1.length→∃b off,A=some ⟨b,off,none⟩∧b<w.heap.size∧
  ∀j s,c1[j]?=some s→w.cell? ⟨b,off+j*5+1,none⟩=some (.int .i64 s.m)∧∃uK ci,w.cell? ⟨b,off+j*5+2,none⟩=some (.slice uK s.ins.length ci)∧th w (.slice uK s.ins.length ci) s.ins):=by
 obtain⟨A,cap,ay,aq,af⟩:=h;refine⟨A,cap,ay,aq,fun hp=> ?_⟩;obtain⟨b,off,aK,J,ah⟩:=af hp;refine⟨b,off,aK,J,fun j s aB=> ?_⟩;obtain⟨_,I,bo,U,ae⟩:=ah j s aB;obtain⟨uK,ci,rfl,_⟩:=id ae;exact⟨I,uK,ci,U,ae⟩
def Rc (c1:List sz) (sc:Nat) (w:World) (e:Ending) (w':World):Prop:=
 ∃bo,e= .returned (.tuple #[bo,.int .i64 (r3 c1 (c1[sc]?.getD ⟨0,[]⟩)).2])∧th w' bo (r3 c1 (c1[sc]?.getD ⟨0,[]⟩)).1∧Kept w w'
theorem agZ (c_ b2:Value) (At:Option Addr) (ik gX:Nat) (c1:List sz) (sc:Nat) (w:World) (cY:Option Addr) (ne ce:Nat) (Hp:c_= .slice cY ne ce) (bj:zA w b2 c1) (ih:sc<c1.length):
  Calls prog 50 #[.agg #[c_,.slice At ik gX,b2],sc] w (Rc c1 sc w):=by
 unfold Rc;subst Hp;have cD:=hid bj;obtain⟨jU,cs,rfl,nw,af⟩:=bj.at_;obtain⟨b,off,rfl,J,ah⟩:=af (by omega);have ai:c1[sc]?=some (c1[sc]'ih):=a8 ih;rw[ai,Option.getD_some];obtain⟨b3,uK,ci,cT,hF⟩:=ah sc _ ai;have ab:=(aQ w).alloc (.cells #[.slice cY ne ce,.slice At ik gX,.slice (some ⟨b,off,none⟩) c1.length cs] 26);have hO:=ab.ad J b3;have Co:(sc:Int)<c1.length:=by omega
 generalize Qu:c1[sc]=s at*;have hD:=hid ab;by_cases hm:s.m<0∨(c1.length:Int)≤s.m
 ·have aI:=hid (show r3 c1 s=([],0) by rw[r3,if_pos hm]);rw[aI.out];rcases (show s.m<0∨(¬s.m<0∧(c1.length:Int)≤s.m) by omega)with h|⟨h,U⟩
  ·clear hm ah af hF cT ab cD;go_enter func50,ntmps50
   go_wp2_with fail
   go_ret2
   exact⟨_,rfl,th.nil _,hD.out⟩
  ·clear hm ah af hF cT ab cD;go_enter func50,ntmps50
   go_wp2_with fail
   go_ret2
   exact⟨_,rfl,th.nil _,hD.out⟩
 ·obtain⟨q,au⟩:∃q:Nat,s.m=q:=⟨s.m.toNat,by omega⟩;have Cm:q<c1.length:=by omega
  have dT:c1[q]?=some (c1[q]'Cm):=a8 Cm;have aI:=hid (show r3 c1 s=((c1[q]'Cm).ins,8) by rw[r3,if_neg hm,au,Int.toNat_natCast,dT];rfl);obtain⟨_,anf,wN,fW,ar⟩:=ah q _ dT;have Gr:=ab.ad J fW;have dO:=hid (ar.kept ab);rw[aI.out];generalize c1[q]=s2 at*;rw[au]at hO;have rR:(q:Int)<c1.length:=by omega
  have al5:¬((c1.length:Int)≤q):=by omega
  clear hm ah af hF b3 cT fW ab cD ar au ai dT Qu bj aI;go_enter func50,ntmps50
  go_wp2_with fail
  go_ret2
  exact⟨_,rfl,dO.out,hD.out⟩
theorem ld.at_ {w:World} {v:Value} {mem:List (List bg)} (h:ld w v mem):∃A cap,v= .slice A mem.length cap∧mem.length≤9223372036854775807∧(0<mem.length→∃b off,A=some ⟨b,off,none⟩∧b<w.heap.size∧
  ∀j l,mem[j]?=some l→l.length≤9223372036854775807∧∃uK ci,w.cell? ⟨b,off+j,none⟩=some (.slice uK l.length ci)∧ff w (.slice uK l.length ci) l):=by
 obtain⟨A,cap,ay,aq,af⟩:=h;refine⟨A,cap,ay,aq,fun hp=> ?_⟩;obtain⟨b,off,aK,J,ah⟩:=af hp;refine⟨b,off,aK,J,fun j l aB=> ?_⟩;obtain⟨aj,bT,I,U⟩:=ah j l aB;obtain⟨uK,ci,rfl,_⟩:=id U;exact⟨aj,uK,ci,I,U⟩
theorem adq {ms:List (List ByteArray)} {ba:List cO} {mem:List (List bg)} {i:Nat} {l:List bg} (h:mem[i]?=some l):
  x9 ms ba i (mem.drop i)=if (l5 ms ba l).2=0 then x9 ms ba (i+1) (mem.drop (i+1))else (i,(l5 ms ba l).1,(l5 ms ba l).2):=by
 obtain⟨aE,rfl⟩:=b8 h;rw[List.drop_eq_getElem_cons aE,x9]
theorem adr {ms:List (List ByteArray)} {ba:List cO} {mem:List (List bg)} {i:Nat} (h:¬i<mem.length):x9 ms ba i (mem.drop i)=(0,0,0):=by
 rw[List.drop_eq_nil_iff.2 (by omega)];rfl
def Sl (R:Int×Int×Int) (w:World) (e:Ending) (w':World):Prop:=e= .returned (.tuple #[R.1,R.2.1,R.2.2])∧Kept w w'
theorem akl (bT bo bW:Value) (ms:List (List ByteArray)) (c1:List sz) (sc d:Int) (ins:List bg) (mem:List (List bg)) (w:World) (bL:Gb w bT ms c1) (bC:ff w bo ins) (fP:ins.length≤9223372036854775807) (br:ld w bW mem):
  Calls prog 33 #[bT,sc,.agg #[d,bo,bW]] w (Sl (s' ms c1 sc d ins mem) w):=by
 unfold Sl;obtain⟨c_,At,ik,gX,b2,rfl,aX,bj⟩:=bL;obtain⟨cY,ce,rfl,_,_⟩:=id aX;obtain⟨jU,cs,rfl,nw,af⟩:=bj.at_;obtain⟨dS,ci,rfl,_⟩:=id bC;obtain⟨eH,hg,rfl,gR,o0⟩:=br.at_;have aF:=hid (((aQ w).alloc (.cells #[.slice cY ms.length ce,.slice At ik gX,.slice jU c1.length cs] 26)).alloc (.cells #[d,.slice dS ins.length ci,.slice eH mem.length hg] 34));by_cases I:sc<0
 ·have aI:=hid (show s' ms c1 sc d ins mem=(-1,-1,6) by rw[s',if_pos (.inl I)]);rw[aI.out];clear aX bj bC br af o0;go_enter func33,ntmps33
  go_wp2_with fail
  go_ret3
  exact⟨rfl,aF.out⟩
 by_cases U:(c1.length:Int)≤sc
 ·have aI:=hid (show s' ms c1 sc d ins mem=(-1,-1,6) by rw[s',if_pos (.inr U)]);rw[aI.out];clear aX bj bC br af o0;go_enter func33,ntmps33
  go_wp2_with fail
  go_ret3
  exact⟨rfl,aF.out⟩
 have vJ:s' ms c1 sc d ins mem=if d<0∨109572<d then (-1,-1,3)else (if (l5 ms (c1[sc.toNat]?.getD ⟨0,[]⟩).ins ins).2=0 then
   (if (r3 c1 (c1[sc.toNat]?.getD ⟨0,[]⟩)).2<mem.length then (((r3 c1 (c1[sc.toNat]?.getD ⟨0,[]⟩)).2:Int),-1,4)else x9 ms (r3 c1 (c1[sc.toNat]?.getD ⟨0,[]⟩)).1 0 mem)
  else (-1,((l5 ms (c1[sc.toNat]?.getD ⟨0,[]⟩).ins ins).1:Int),(l5 ms (c1[sc.toNat]?.getD ⟨0,[]⟩).ins ins).2)):=by
  rw[s',if_neg (by omega)]
 obtain⟨q,rfl⟩:∃q:Nat,sc=q:=⟨sc.toNat,by omega⟩;rw[Int.toNat_natCast]at vJ;have Cm:q<c1.length:=by omega
 obtain⟨b,off,rfl,J,ah⟩:=af (by omega);have ai:c1[q]?=some (c1[q]'Cm):=a8 Cm;obtain⟨_,uK,gP,cT,hF⟩:=ah q _ ai;have Qc:=ai;have C_:=hid (fun w1 (aa:Kept w w1)=>agZ (.slice cY ms.length ce) (.slice (some ⟨b,off,none⟩) c1.length cs) At ik gX c1 q w1 cY ms.length ce rfl (bj.kept aa) Cm);unfold Rc at C_;rw[ai,Option.getD_some]at vJ C_;generalize c1[q]=s at*;have Co:(q:Int)<c1.length:=by omega
 have PW:¬(d<0∨109572<d)∨(d<0∨109572<d):=by omega
 rcases PW with av|av
 ·rw[if_neg av]at vJ;have gB:¬d<0:=by omega
  have l8:¬109572<d:=by omega
  have tC:=hid vJ;have cv:=hid aX;have dn:=hid bC;have aV:=hid hF;have cp:=hid o0;clear vJ aX bj bC br ah o0 av Qc ai I U hF af;go_enter func33,ntmps33
  go_wp2_with fail
  have aS:=(ao.new w 26 #[.slice cY ms.length ce,.slice At ik gX,.slice (some ⟨b,off,none⟩) c1.length cs]).alloc (.cells #[d,.slice dS ins.length ci,.slice eH mem.length hg] 34);have aT:=ao.new (w.alloc (.cells #[.slice cY ms.length ce,.slice At ik gX,.slice (some ⟨b,off,none⟩) c1.length cs] 26)) 34 #[d,.slice dS ins.length ci,.slice eH mem.length hg];rw[World.size_alloc]at aT;have iv:=aF.out.ad J cT;generalize (w.alloc (.cells #[.slice cY ms.length ce,.slice At ik gX,.slice (some ⟨b,off,none⟩) c1.length cs] 26)).alloc (.cells #[d,.slice dS ins.length ci,.slice eH mem.length hg] 34)=W at*;have fO:=bd J aF.out.size;have tn:=hid (fun w1 (aa:Kept w w1)=>U9 (.slice cY ms.length ce) At (some ⟨b,off,none⟩) ik gX c1.length cs _ _ ms s.ins ins w1 (cv.out.kept aa) (dn.out.kept aa) (aV.out.kept aa) fP);unfold Ka at tn;have a0:=al.cell aS.lt (aS.cell 0);have cE:=al.cell aS.lt (aS.cell 1);have a2:=al.cell aS.lt (aS.cell 2);have b5:=al.cell aT.lt (aT.cell 0);have aC:=al.cell aT.lt (aT.cell 1);have aM:=al.cell aT.lt (aT.cell 2);have gY:=al.cell fO iv;refine fQ (by kernel_rfl) (by kernel_rfl) ?_
  repeat (go_big_quiet_step (first|(go_at_call 49;exact al.call (tn.out _ (aF.out.trans (al.h _))))))
  refine wpQuiet_nil ?_;rintro w2 ⟨⟨bt,cj⟩,bb⟩;obtain rfl:w2=bt:=bb;have bR:=aF.out.trans cj;have cr:=aS.kept cj;have c2:=aT.kept cj;clear a0 cE a2 b5 aC aM gY iv aS aT cj;have mr:=hid bR;have I6:=hid cr;have hc:=hid c2;have d0:=cr.cell 0;have d1:=cr.cell 1;have d2:=cr.cell 2;have dl:=cr.lt;have g2:=c2.cell 2;have ox:=c2.lt;generalize l5 ms s.ins ins=R at*;obtain⟨aC,Ou⟩:=R;dsimp only at tC⊢;clear tn aV dn bR cr c2;by_cases fH:Ou=0
  ·subst fH;rw[if_pos rfl]at tC;have Jj:=hid (C_.out w2 mr.out);clear C_;generalize r3 c1 s=py at*;obtain⟨its,lim⟩:=py;dsimp only at tC Jj;by_cases XG:lim<mem.length
   ·rw[if_pos XG]at tC;have pP:(lim:Int)<mem.length:=by omega
    clear cp cv;go_wp2_with (go_at_call 50;refine Jj.out.mono ?_;rintro e cw ⟨anP,rfl,D8,bw⟩;have g2:=(hc.out.kept bw).cell 2;have ox:=(hc.out.kept bw).lt)
    go_ret3
    rw[tC.out];exact⟨rfl,mr.out.trans bw⟩
   ·rw[if_neg XG]at tC;have pP:¬((lim:Int)<mem.length):=by omega
    go_wp2_with (go_at_call 50;refine Jj.out.mono ?_;rintro e cw ⟨anP,rfl,D8,bw⟩;have g2:=(hc.out.kept bw).cell 2;have ox:=(hc.out.kept bw).lt)
    have fe:=mr.out.trans bw;have fu:=I6.out.kept bw;obtain⟨n,aA⟩:∃n,n=mem.length:=⟨_,rfl⟩;rw[←aA]at cp gR⊢;have bk:=hid aA;obtain⟨anf,wN,rfl,_⟩:=id D8;have HF3:=hid D8;clear aA d0 d1 d2 dl g2 ox I6 hc Jj pP D8;go_loopw [66] (fun y wr=>∃i:Nat,y= .int .i64 i∧i≤n∧Kept cw wr∧x9 ms its i (mem.drop i)=x9 ms its 0 mem) (fun y _=>n-(intOf y).toNat)
    case atStart=>exact⟨0,rfl,Nat.zero_le _,aQ _,rfl⟩
    case round=>
     obtain⟨i,rfl,de,ab,aG⟩:=hrel;have d0:=(fu.kept ab).cell 0;have d1:=(fu.kept ab).cell 1;have d2:=(fu.kept ab).cell 2;have dl:=(fu.kept ab).lt;by_cases aD:i<n
     ·obtain⟨UJ,anV,rfl,sL,sM⟩:=cp.out (by omega);have B8:mem[i]?=some (mem[i]'(by have:=bk.out;omega)):=a8 _;rw[adq B8]at aG;obtain⟨t',Su,ad,e3,WK⟩:=sM i _ B8;generalize mem[i]'(by have:=bk.out;omega)=l at*;have bu:=fe.trans ab;have wK:=bu.ad sL e3;have tn:=hid (U9 (.slice cY ms.length ce) At (some ⟨b,off,none⟩) ik gX c1.length cs _ _ ms its l wr (cv.out.kept bu) (WK.kept bu) (HF3.out.kept ab) t');unfold Ka at tn;have c6:(i:Int)<n:=by omega
      generalize l5 ms its l=R at*;obtain⟨aO,aN⟩:=R;dsimp only at aG tn;clear sM e3 WK B8 t';by_cases au:aN=0
      ·subst au;rw[if_pos rfl]at aG;have dd:=hid aG;clear aG;go_wp2_with (go_at_call 49;refine tn.out.mono ?_;rintro e cf ⟨rfl,cQ⟩)
       go_roundw
       case rel=>exact⟨i+1,rfl,aD,ab.trans cQ,dd.out⟩
       case measure=>simp[intOf];omega
      ·rw[if_neg au]at aG;have qL:=J4 au;have dd:=hid aG;clear aG au;go_wp2_with (go_at_call 49;refine tn.out.mono ?_;rintro e cf ⟨rfl,cQ⟩)
       go_ret3
       rw[tC.out,←dd.out];exact⟨rfl,bu.trans cQ⟩
     ·have c6:¬((i:Int)<n):=by omega
      rw[adr (by have:=bk.out;omega)]at aG;have dd:=hid aG;clear aG;go_wp2_with fail
      go_ret3
      rw[tC.out,←dd.out];exact⟨rfl,fe.trans ab⟩
  ·rw[if_neg fH]at tC;have qL:=J4 fH;clear fH C_ cp cv;go_wp2_with fail
   go_ret3
   rw[tC.out];exact⟨rfl,mr.out⟩
 ·rw[if_pos av]at vJ;have tC:=hid vJ;rcases (show d<0∨(¬d<0∧109572<d) by omega)with h|⟨h,h2'⟩
  all_goals
   clear aX bj bC br ah o0 av C_ vJ I U hF af ai Qc;go_enter func33,ntmps33
   go_wp2_with fail
   go_ret3
   rw[tC.out];exact⟨rfl,aF.out⟩
theorem Kept.eh {w W:World} {aC aM a1:Array Value} {t1 t2 t3:TypeId} (h:Kept (((w.alloc (.cells aC t1)).alloc (.cells aM t2)).alloc (.cells a1 t3)) W):
  ao W w.heap.size t1 aC∧ao W (w.heap.size+1) t2 aM∧ao W (w.heap.size+1+1) t3 a1:=Kept.BA h
theorem Kept.dy {w W:World} {aC aM a1 bN:Array Value} {t1 t2 t3 t4:TypeId} (h:Kept ((((w.alloc (.cells aC t1)).alloc (.cells aM t2)).alloc (.cells a1 t3)).alloc (.cells bN t4)) W):
  ao W w.heap.size t1 aC∧ao W (w.heap.size+1) t2 aM∧ao W (w.heap.size+1+1) t3 a1∧ao W (w.heap.size+1+1+1) t4 bN:=Kept.UH h
theorem Kept.c9 {w W:World} {aC aM a1 bN bJ:Array Value} {t1 t2 t3 t4 t5:TypeId} (h:Kept (((((w.alloc (.cells aC t1)).alloc (.cells aM t2)).alloc (.cells a1 t3)).alloc (.cells bN t4)).alloc (.cells bJ t5)) W):
  ao W w.heap.size t1 aC∧ao W (w.heap.size+1) t2 aM∧ao W (w.heap.size+1+1) t3 a1∧ao W (w.heap.size+1+1+1) t4 bN∧ao W (w.heap.size+1+1+1+1) t5 bJ:=by
 obtain⟨a,b,c,d⟩:=Kept.UH (Kept.trans ((aQ _).alloc _) h);refine⟨a,b,c,d,?_⟩;have:=(ao.new ((((w.alloc (.cells aC t1)).alloc (.cells aM t2)).alloc (.cells a1 t3)).alloc (.cells bN t4)) t5 bJ).kept h;rwa [World.size_alloc,World.size_alloc,World.size_alloc,World.size_alloc]at this
def jx (t:cO):List Value:=[.int .i64 t.k,t.e]
theorem My (t:cO):(jx t).length=2:=rfl
abbrev kb (w:World) (v:Value) (ba:List cO):Prop:=gV w jx 2 v ba
theorem kb.at_ {w:World} {v:Value} {xs:List cO} (h:kb w v xs):∃A cap,v= .slice A xs.length cap∧(0<xs.length→∃b off,A=some ⟨b,off,none⟩∧b<w.heap.size∧
  ∀j t,xs[j]?=some t→w.cell? ⟨b,off+j*2,none⟩=some (.int .i64 t.k)∧w.cell? ⟨b,off+j*2+1,none⟩=some (.int .i64 t.e)):=by
 obtain⟨A,cap,ay,af⟩:=h;refine⟨A,cap,ay,fun hp=> ?_⟩;obtain⟨b,off,aK,J,ah⟩:=af hp;exact⟨b,off,aK,J,fun j t aB=>⟨ah j t aB 0 _ rfl,ah j t aB 1 _ rfl⟩⟩
end Go.Proofs.YtobpgndkciofhaaGreatDoor
