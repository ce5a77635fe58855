import Derived.Test.YtobpgndkciofhaaGreatDoorD
import Derived.Deep.MidRow
set_option linter.all false
namespace Go.Proofs.YtobpgndkciofhaaGreatDoor
open Go.RowKit Go.Proofs.Tryz
set_option maxRecDepth 100000
def bV (d dt:Int) (r:bf):Bool:=decide (r.bK=d)&&wO r.dH r.dB dt
def pb (kp:bf→Bool):List bf→List Int→List Nat→List Int→List Nat×List Int
 |[],_,l,p=>(l,p)
 |r::rs,e',l,p=>
  if kp r then pb kp rs (e'++[(l.length:Int)]) (l++[e'.length]) (p++[if 0≤r.bD∧r.bD<e'.length then e'[r.bD.toNat]?.getD 0 else -1])
  else pb kp rs (e'++[if 0≤r.bD∧r.bD<e'.length then e'[r.bD.toNat]?.getD 0 else -1]) l p
def c8 (kp:bf→Bool) (rs:List bf):List Nat×List Int:=pb kp rs [] [] []
def lx:bf:=⟨⟨#[]⟩,0,0,0,0,0,[],[],⟨#[]⟩⟩
noncomputable def fG (Lf:gm) (E:dC) (rs:List bf):List Nat→List Bool→List Bool×Int×Int
 |[],acc=>(acc,0,0)
 |i::r,acc=>
  if (rs[i]?.getD lx).g.length=0 then fG Lf E rs r (acc++[true])
  else if (iy Lf E (rs[i]?.getD lx).g).2≠0 then ([],(iy Lf E (rs[i]?.getD lx).g).2,i)
  else fG Lf E rs r (acc++[decide ((iy Lf E (rs[i]?.getD lx).g).1.n=1)])
def nD (par pri:List Int):Bool:=decide (par.length=pri.length)&&(decide (par.length≤8)&&(List.range par.length).all (fun i=>decide (-1≤par[i]?.getD 0∧par[i]?.getD 0<i∧0≤pri[i]?.getD 0∧pri[i]?.getD 0≤9)))
def kK (par pri:List Int) (apl:List Bool):Int:=
 if nD par pri=true∧apl.length=par.length then Fh par (fun i=>pri[i]?.getD 0) (fun i=>apl[i]?.getD false) par.length else -1
def h6 (rs:List bf) (l:List Nat):List Int:=l.map fun i=>(rs[i]?.getD lx).fa
noncomputable def eL (Lf:gm) (E:dC) (rs:List bf) (d:Int):Int×Int×Int:=
 if (fG Lf E rs (c8 (bV d E.dt) rs).1 []).2.1≠0 then (0,(fG Lf E rs (c8 (bV d E.dt) rs).1 []).2.1,(fG Lf E rs (c8 (bV d E.dt) rs).1 []).2.2)
 else if kK (c8 (bV d E.dt) rs).2 (h6 rs (c8 (bV d E.dt) rs).1) (fG Lf E rs (c8 (bV d E.dt) rs).1 []).1<0 then (kK (c8 (bV d E.dt) rs).2 (h6 rs (c8 (bV d E.dt) rs).1) (fG Lf E rs (c8 (bV d E.dt) rs).1 []).1,0,0)
 else (((c8 (bV d E.dt) rs).1[(kK (c8 (bV d E.dt) rs).2 (h6 rs (c8 (bV d E.dt) rs).1) (fG Lf E rs (c8 (bV d E.dt) rs).1 []).1).toNat]?.getD 0:Nat),0,0)
def h2 (kp:bf→Bool) (rs:List bf) (i:Nat):Nat:=((rs.take i).filter kp).length
theorem Va {kp:bf→Bool} {rs:List bf} {i:Nat} {r:bf} (h:rs[i]?=some r):h2 kp rs (i+1)=h2 kp rs i+if kp r then 1 else 0:=by
 obtain⟨aE,rfl⟩:=b8 h;unfold h2;rw[List.take_succ_eq_append_getElem aE,List.filter_append,List.length_append,List.filter_cons,List.filter_nil];split<;>rfl
theorem adK {kp:bf→Bool} {rs:List bf} {i j:Nat} (h:i≤j):h2 kp rs i≤h2 kp rs j:=by
 unfold h2;obtain⟨k,rfl⟩:=Nat.exists_eq_add_of_le h;rw[List.take_add,List.filter_append,List.length_append];omega
theorem DU {kp:bf→Bool} {rs:List bf} {i j:Nat} {r:bf} (h:rs[i]?=some r) (aa:kp r=true) (aB:i<j):h2 kp rs i<h2 kp rs j:=by
 have I:=Va (kp:=kp) h;have U:=adK (kp:=kp) (rs:=rs) (show i+1≤j by omega);rw[if_pos aa]at I;omega
theorem adJ {kp:bf→Bool} {rs:List bf} {i j:Nat} {r s:bf} (aE:rs[i]?=some r) (aH:kp r=true) (aB:rs[j]?=some s) (ax:kp s=true) (h:h2 kp rs i=h2 kp rs j):i=j:=by
 rcases Nat.lt_trichotomy i j with aD|he|aD
 ·have:=DU aE aH aD;omega
 ·exact he
 ·have:=DU aB ax aD;omega
inductive tJ (kp:bf→Bool) (rs:List bf):Nat→Option Nat→Prop
 |self {i:Nat} {r:bf}:rs[i]?=some r→kp r=true→tJ kp rs i (some i)
 |up {i:Nat} {r:bf} {o:Option Nat}:rs[i]?=some r→kp r=false→0≤r.bD→r.bD<i→tJ kp rs r.bD.toNat o→tJ kp rs i o
 |top {i:Nat} {r:bf}:rs[i]?=some r→kp r=false→¬(0≤r.bD∧r.bD<i)→tJ kp rs i none
def Z_ (kp:bf→Bool) (rs:List bf):Option Nat→Int
 |none=> -1
 |some j=>(h2 kp rs j:Nat)
def NZ (kp:bf→Bool) (rs:List bf) (i:Nat) (r:bf) (q:Int):Prop:=(0≤r.bD∧r.bD<i∧∃o,tJ kp rs r.bD.toNat o∧q=Z_ kp rs o)∨(¬(0≤r.bD∧r.bD<i)∧q= -1)
structure N4 (kp:bf→Bool) (rs:List bf) (n:Nat) (l:List Nat) (p:List Int):Prop where
 oB:l.length=h2 kp rs n
 pl:p.length=h2 kp rs n
 at_:∀(i:Nat) (r:bf),i<n→rs[i]?=some r→kp r=true→l[h2 kp rs i]?=some i∧∃q,NZ kp rs i r q∧p[h2 kp rs i]?=some q
 uu:∀(k i:Nat),l[k]?=some i→i<n∧h2 kp rs i=k∧∃r,rs[i]?=some r∧kp r=true
theorem ah1 (kp:bf→Bool) (rs:List bf):∀(k n:Nat) (e':List Int) (l:List Nat) (p:List Int),n+k=rs.length→e'.length=n→
  (∀i,i<n→∃o,tJ kp rs i o∧e'[i]?=some (Z_ kp rs o))→N4 kp rs n l p→N4 kp rs rs.length (pb kp (rs.drop n) e' l p).1 (pb kp (rs.drop n) e' l p).2:=by
 intro k;induction k with
 |zero=>
  intro n e' l p aA _ _ h;have:n=rs.length:=by omega
  subst this;rw[List.drop_length];exact h
 |succ k bH=>
  intro n e' l p aA aq Qf h;have aD:n<rs.length:=by omega
  have ai:rs[n]?=some rs[n]:=a8 aD;rw[List.drop_eq_getElem_cons aD];generalize rs[n]=r at*;unfold pb;obtain⟨a,aZ⟩:∃a,a=(if 0≤r.bD∧r.bD<e'.length then e'[r.bD.toNat]?.getD 0 else -1):=⟨_,rfl⟩;rw[←aZ];have Ez:NZ kp rs n r a:=by
   by_cases hp:0≤r.bD∧r.bD<n
   ·obtain⟨o,I,U⟩:=Qf r.bD.toNat (by omega);rw[aq,if_pos hp,U]at aZ;exact .inl ⟨hp.1,hp.2,o,I,aZ⟩
   ·rw[aq,if_neg hp]at aZ;exact .inr ⟨hp,aZ⟩
  clear aZ;have hv:=Va (kp:=kp) ai;by_cases aa:kp r=true
  ·rw[if_pos aa]at hv⊢;refine bH (n+1) _ _ _ (by omega) (by simp[aq]) (fun i aE=> ?_) ⟨by simp[h.oB,hv],by simp[h.pl,hv],fun i s aE ax w8=> ?_,fun j i aB=> ?_⟩
   ·rcases Nat.lt_or_ge i n with sP|sP
    ·rw[List.getElem?_append_left (by omega)];exact Qf i sP
    ·obtain rfl:i=n:=by omega
     rw[List.getElem?_append_right (by omega),aq,Nat.sub_self];exact⟨some i,.self ai aa,by rw[h.oB];rfl⟩
   ·rcases Nat.lt_or_ge i n with sP|sP
    ·obtain⟨I,q,U,ae⟩:=h.at_ i s sP ax w8;exact⟨by rw[List.getElem?_append_left ((b8 I).1)];exact I,q,U,by rw[List.getElem?_append_left ((b8 ae).1)];exact ae⟩
    ·obtain rfl:i=n:=by omega
     obtain rfl:r=s:=Option.some.inj (ai.symm.trans ax);refine⟨?_,a,Ez,?_⟩
     ·rw[List.getElem?_append_right (by rw[h.oB];exact Nat.le_refl _),h.oB,Nat.sub_self,aq];rfl
     ·rw[List.getElem?_append_right (by rw[h.pl];exact Nat.le_refl _),h.pl,Nat.sub_self];rfl
   ·rcases Nat.lt_or_ge j l.length with sQ|sQ
    ·rw[List.getElem?_append_left sQ]at aB;obtain⟨I,U,ae⟩:=h.uu j i aB;exact⟨by omega,U,ae⟩
    ·rw[List.getElem?_append_right sQ]at aB;obtain⟨B9,Xw⟩:=b8 aB;simp at B9;have:j=l.length:=by omega
     subst this;simp[aq]at Xw;subst Xw;exact⟨by omega,h.oB.symm,r,ai,aa⟩
  ·rw[if_neg aa]at hv⊢;refine bH (n+1) _ _ _ (by omega) (by simp[aq]) (fun i aE=> ?_) ⟨by simp[h.oB,hv],by simp[h.pl,hv],fun i s aE ax w8=> ?_,fun j i aB=> ?_⟩
   ·rcases Nat.lt_or_ge i n with sP|sP
    ·rw[List.getElem?_append_left (by omega)];exact Qf i sP
    ·obtain rfl:i=n:=by omega
     rw[List.getElem?_append_right (by omega),aq,Nat.sub_self];have gC:kp r=false:=by simpa using aa
     rcases Ez with⟨I,U,o,ae,aJ⟩|⟨I,U⟩
     ·exact⟨o,.up ai gC I U ae,by rw[aJ];rfl⟩
     ·exact⟨none,.top ai gC I,by rw[U];rfl⟩
   ·rcases Nat.lt_or_ge i n with sP|sP
    ·exact h.at_ i s sP ax w8
    ·obtain rfl:i=n:=by omega
     obtain rfl:r=s:=Option.some.inj (ai.symm.trans ax);exact absurd w8 aa
   ·obtain⟨I,U,ae⟩:=h.uu j i aB;exact⟨by omega,U,ae⟩
theorem xn (kp:bf→Bool) (rs:List bf):N4 kp rs rs.length (c8 kp rs).1 (c8 kp rs).2:=
 ah1 kp rs rs.length 0 [] [] [] (by omega) rfl (fun i h=>by omega) ⟨rfl,rfl,fun i r h=>by omega,fun k i h=>by simp at h⟩
structure m' (A B:List bf) (r s:bf):Prop where
 ag:r.ag=s.ag
 bK:r.bK=s.bK
 fa:r.fa=s.fa
 dH:r.dH=s.dH
 dB:r.dB=s.dB
 g:r.g=s.g
 v:r.v=s.v
 bD:(r.bD= -1∧s.bD= -1)∨(0≤r.bD∧0≤s.bD∧∃p q,A[r.bD.toNat]?=some p∧B[s.bD.toNat]?=some q∧p.ag=q.ag)
structure DD (A:List bf):Prop where
 c7:∀(i j:Nat) (r s:bf),A[i]?=some r→A[j]?=some s→r.ag=s.ag→i=j
 bD:∀(i:Nat) (r:bf),A[i]?=some r→r.bD= -1∨(0≤r.bD∧r.bD<i∧∃p,A[r.bD.toNat]?=some p∧p.bK=r.bK)
structure kM (A B:List bf) (d:Int):Prop where
 a:DD A
 b:DD B
 rv:∀(i:Nat) (r:bf),A[i]?=some r→r.bK=d→∃(j:Nat) (s:bf),B[j]?=some s∧m' A B r s
 anF:∀(j:Nat) (s:bf),B[j]?=some s→s.bK=d→∃(i:Nat) (r:bf),A[i]?=some r∧m' A B r s
def NW (A B:List bf) (i j:Nat):Prop:=∃r s,A[i]?=some r∧B[j]?=some s∧r.ag=s.ag
open Classical in
noncomputable def p_ (A B:List bf) (i:Nat):Nat:=if h:∃j,NW A B i j then Classical.choose h else 0
theorem kM.mt {A B:List bf} {d:Int} (_h:kM A B d) {i j:Nat} (hm:NW A B i j) (J:DD B):p_ A B i=j:=by
 have hex:∃j,NW A B i j:=⟨j,hm⟩;unfold p_;rw[dif_pos hex];obtain⟨r,s,I,U,ae⟩:=Classical.choose_spec hex;obtain⟨oE,AJ,g1,g2,g3⟩:=hm;obtain rfl:r=oE:=Option.some.inj (I.symm.trans g1);exact J.c7 _ _ _ _ U g2 (ae.symm.trans g3)
theorem kM.at_ {A B:List bf} {d:Int} (h:kM A B d) {i:Nat} {r:bf} (aE:A[i]?=some r) (av:r.bK=d):∃s,B[p_ A B i]?=some s∧m' A B r s:=by
 obtain⟨j,s,I,U⟩:=h.rv i r aE av;have:=h.mt ⟨r,s,aE,I,U.ag⟩ h.b;exact⟨s,by rw[this];exact I,U⟩
section
variable {A B:List bf} {d dt:Int}
theorem m'.keep {r s:bf} (h:m' A B r s):bV d dt r=bV d dt s:=by unfold bV;rw[h.bK,h.dH,h.dB]
theorem kM.par (h:kM A B d) {i:Nat} {r s:bf} (aE:A[i]?=some r) (av:r.bK=d) (ax:B[p_ A B i]?=some s) (pU:m' A B r s) (hp:0≤r.bD):0≤s.bD∧s.bD<p_ A B i∧s.bD.toNat=p_ A B r.bD.toNat∧∃p,A[r.bD.toNat]?=some p∧p.bK=d:=by
 rcases pU.bD with⟨I,_⟩|⟨_,U,p,q,ae,aJ,bp⟩
 ·omega
 ·have aD:s.bD<p_ A B i:=by
   rcases h.b.bD _ _ ax with g|⟨_,g,_⟩
   ·omega
   ·exact g
  refine⟨U,aD,(h.mt ⟨p,q,ae,aJ,bp⟩ h.b).symm,?_⟩;rcases h.a.bD _ _ aE with g|⟨_,_,RC,g1,g2⟩
  ·omega
  ·exact⟨RC,g1,g2.trans av⟩
theorem kM.top (_h:kM A B d) {r s:bf} (pU:m' A B r s) (hp:¬0≤r.bD):¬0≤s.bD:=by
 rcases pU.bD with⟨_,U⟩|⟨I,_⟩
 ·omega
 ·exact absurd I hp
theorem kM.s4 (h:kM A B d) {i:Nat} {o:Option Nat} (aA:tJ (bV d dt) A i o):∀r,A[i]?=some r→r.bK=d→tJ (bV d dt) B (p_ A B i) (o.map (p_ A B))∧∀m,o=some m→∃s,A[m]?=some s∧bV d dt s=true:=by
 induction aA with
 |self I U=>
  intro r aH av;obtain⟨s,g1,g2⟩:=h.at_ aH av;obtain rfl:=Option.some.inj (I.symm.trans aH);exact⟨.self g1 (by rw[←g2.keep];exact U),fun m hm=>by obtain rfl:=Option.some.inj hm;exact⟨_,I,U⟩⟩
 |up I U ae aJ bp bH=>
  intro r aH av;obtain⟨s,g1,g2⟩:=h.at_ aH av;obtain rfl:=Option.some.inj (I.symm.trans aH);obtain⟨aO,aN,cK,p,dA,p9⟩:=h.par aH av g1 g2 ae;obtain⟨w1,w2⟩:=bH p dA p9;exact⟨.up g1 (by rw[←g2.keep];exact U) aO aN (by rw[cK];exact w1),w2⟩
 |top I U ae=>
  intro r aH av;obtain⟨s,g1,g2⟩:=h.at_ aH av;obtain rfl:=Option.some.inj (I.symm.trans aH);refine⟨.top g1 (by rw[←g2.keep];exact U) (fun bb=> ?_),fun m hm=>by cases hm⟩;rcases h.a.bD _ _ aH with g|⟨g,hR,_⟩
  ·exact h.top g2 (by omega) bb.1
  ·exact ae ⟨g,hR⟩
theorem kM.aaX (h:kM A B d) {j:Nat} {s:bf} (aB:B[j]?=some s) (aa:bV d dt s=true):∃i r,A[i]?=some r∧bV d dt r=true∧p_ A B i=j:=by
 have av:s.bK=d:=by unfold bV at aa;simp at aa;exact aa.1
 obtain⟨i,r,I,U⟩:=h.anF j s aB av;exact⟨i,r,I,by rw[U.keep];exact aa,h.mt ⟨r,s,I,aB,U.ag⟩ h.b⟩
theorem Cx {r:bf} (h:bV d dt r=true):r.bK=d:=by unfold bV at h;simp at h;exact h.1
noncomputable def AK (A B:List bf) (d dt:Int) (k:Nat):Nat:=h2 (bV d dt) B (p_ A B ((c8 (bV d dt) A).1[k]?.getD 0))
theorem AL (_h:kM A B d) {i:Nat} {r:bf} (aE:A[i]?=some r) (aa:bV d dt r=true):AK A B d dt (h2 (bV d dt) A i)=h2 (bV d dt) B (p_ A B i):=by
 unfold AK;rw[((xn (bV d dt) A).at_ i r (b8 aE).1 aE aa).1];rfl
theorem kM.ajV (h:kM A B d) {apl apl':Nat→Bool}
  (aZ:∀(i:Nat) (r:bf),A[i]?=some r→bV d dt r=true→apl' (h2 (bV d dt) B (p_ A B i))=apl (h2 (bV d dt) A i)):
  Twin (AK A B d dt) (c8 (bV d dt) A).2 (c8 (bV d dt) B).2 (fun k=>(h6 A (c8 (bV d dt) A).1)[k]?.getD 0) (fun k=>(h6 B (c8 (bV d dt) B).1)[k]?.getD 0) apl apl':=by
 have eC:=xn (bV d dt) A;have iG:=xn (bV d dt) B;have get:∀k,k<(c8 (bV d dt) A).2.length→∃i r s,A[i]?=some r∧bV d dt r=true∧h2 (bV d dt) A i=k∧B[p_ A B i]?=some s∧m' A B r s∧bV d dt s=true:=fun k aa=>by
  rw[eC.pl,←eC.oB]at aa;obtain⟨I,U,r,ae,aJ⟩:=eC.uu k _ (a8 aa);obtain⟨s,g1,g2⟩:=h.at_ ae (Cx aJ);exact⟨_,r,s,ae,aJ,U,g1,g2,by rw[←g2.keep];exact aJ⟩
 have ltB:∀{j:Nat} {s:bf},B[j]?=some s→bV d dt s=true→h2 (bV d dt) B j<(c8 (bV d dt) B).2.length:=fun aB ax=>by
  rw[iG.pl];exact DU aB ax (b8 aB).1
 refine⟨fun k aa=> ?_,fun k YY aa gC he=> ?_,fun j aB=> ?_,fun k p hp=> ?_,fun k p hp=> ?_,fun k aa=> ?_,fun k aa=> ?_⟩
 ·obtain⟨i,r,s,I,U,rfl,aJ,bp,eJ⟩:=get k aa;rw[AL h I U];exact ltB aJ eJ
 ·obtain⟨i,r,s,I,U,rfl,aJ,bp,eJ⟩:=get k aa;obtain⟨aoB,oE,AJ,g1,g2,rfl,g4,g5,g6⟩:=get YY gC;rw[AL h I U,AL h g1 g2]at he;have K2:=adJ aJ eJ g4 g6 he;rw[K2]at aJ;obtain rfl:=Option.some.inj (aJ.symm.trans g4);rw[h.a.c7 _ _ _ _ I g1 (bp.ag.trans g5.ag.symm)]
 ·rw[iG.pl,←iG.oB]at aB;obtain⟨I,U,s,ae,aJ⟩:=iG.uu j _ (a8 aB);obtain⟨i,r,g1,g2,g3⟩:=h.aaX ae aJ;refine⟨h2 (bV d dt) A i,?_,?_⟩
  ·rw[eC.pl];exact DU g1 g2 (b8 g1).1
  ·rw[AL h g1 g2,g3,U]
 ·obtain⟨i,r,s,I,U,rfl,aJ,bp,eJ⟩:=get k (b8 hp).1;rw[AL h I U];obtain⟨_,q,au,jK⟩:=eC.at_ i r (b8 I).1 I U;obtain rfl:=Option.some.inj (hp.symm.trans jK);obtain⟨_,Fa,xa,afj⟩:=iG.at_ _ s (b8 aJ).1 aJ eJ;rw[afj];congr 1;have nkd:∀{kp:bf→Bool} {rs:List bf} {i:Nat} {o AB:Option Nat},tJ kp rs i o→tJ kp rs i AB→o=AB:=by
   intro kp rs i o AB I;induction I generalizing AB with
   |self a b=>intro U;cases U with
    |self=>rfl
    |up d' ey=>have:=Option.some.inj (a.symm.trans d');subst this;rw[b]at ey;cases ey
    |top d' ey=>have:=Option.some.inj (a.symm.trans d');subst this;rw[b]at ey;cases ey
   |up a b c e f bH=>intro U;cases U with
    |self d' ey=>have:=Option.some.inj (a.symm.trans d');subst this;rw[b]at ey;cases ey
    |up d' ey gf nj qC=>have:=Option.some.inj (a.symm.trans d');subst this;exact bH qC
    |top d' ey gf=>have:=Option.some.inj (a.symm.trans d');subst this;exact absurd ⟨c,e⟩ gf
   |top a b c=>intro U;cases U with
    |self d' ey=>have:=Option.some.inj (a.symm.trans d');subst this;rw[b]at ey;cases ey
    |up d' ey gf nj qC=>have:=Option.some.inj (a.symm.trans d');subst this;exact absurd ⟨gf,nj⟩ c
    |top=>rfl
  have av:=Cx U;rcases au with⟨cE,a2,o,a3,rfl⟩|⟨cE,rfl⟩
  ·obtain⟨bY,bc,eh,RC,dy,c9⟩:=h.par I av aJ bp cE;obtain⟨aC,aM⟩:=h.s4 a3 RC dy c9;rcases xa with⟨_,_,AB,b7,rfl⟩|⟨az,_⟩
   ·rw[eh]at b7;rw[nkd b7 aC]
    cases o with
    |none=>rfl
    |some m=>
     obtain⟨sm,d1,d2⟩:=aM m rfl;show ((h2 (bV d dt) B (p_ A B m):Nat):Int)=kh _ ((h2 (bV d dt) A m:Nat):Int);unfold kh;rw[if_neg (by omega),Int.toNat_natCast,AL h d1 d2]
   ·exact absurd ⟨bY,bc⟩ az
  ·have aA:¬0≤s.bD:=by
    rcases h.a.bD _ _ I with g|⟨g,hR,_⟩
    ·exact h.top bp (by omega)
    ·exact absurd ⟨g,hR⟩ cE
   rcases xa with⟨az,_⟩|⟨_,rfl⟩
   ·exact absurd az aA
   ·rfl
 ·obtain⟨i,r,s,I,U,rfl,aJ,bp,eJ⟩:=get k (b8 hp).1;obtain⟨_,q,au,jK⟩:=eC.at_ i r (b8 I).1 I U;obtain rfl:=Option.some.inj (hp.symm.trans jK);rcases au with⟨cE,a2,o,a3,rfl⟩|⟨cE,rfl⟩
  ·have le:∀{i:Nat} {o:Option Nat},tJ (bV d dt) A i o→∀m,o=some m→m≤i∧∃s,A[m]?=some s∧bV d dt s=true:=by
    intro i o aA;induction aA with
    |self a b=>intro m hm;obtain rfl:=Option.some.inj hm;exact⟨Nat.le_refl _,_,a,b⟩
    |up a b c e f bH=>intro m hm;obtain⟨g1,g2⟩:=bH m hm;exact⟨by omega,g2⟩
    |top=>intro m hm;cases hm
   cases o with
   |none=>show (-1:Int)≤ -1∧(-1:Int)<_;omega
   |some m=>
    obtain⟨g1,sm,g2,g3⟩:=le a3 m rfl;have:=DU g2 g3 (show m<i by omega);show (-1:Int)≤((h2 (bV d dt) A m:Nat):Int)∧((h2 (bV d dt) A m:Nat):Int)<_;omega
  ·omega
 ·obtain⟨i,r,s,I,U,rfl,aJ,bp,eJ⟩:=get k aa;rw[AL h I U];have az:=(eC.at_ i r (b8 I).1 I U).1;have a6:=(iG.at_ _ s (b8 aJ).1 aJ eJ).1;unfold h6;simp only[List.getElem?_map,az,a6,I,aJ,Option.map_some,Option.getD_some];exact bp.fa.symm
 ·obtain⟨i,r,s,I,U,rfl,aJ,bp,eJ⟩:=get k aa;rw[AL h I U];exact aZ i r I U
end
theorem RS {par pri:List Int} {apl:List Bool}: -2≤kK par pri apl:=by
 unfold kK;split
 ·exact (aaz _ _ _ _).1
 ·decide
theorem Md {par pri:List Int} {apl:List Bool} (_h:0≤kK par pri apl):kK par pri apl<par.length:=by
 unfold kK;split
 ·exact (aaz _ _ _ _).2
 ·omega
theorem II {par pri:List Int} (aq:pri.length=par.length):nD par pri=true↔par.length≤8∧∀(i:Nat) (p:Int),par[i]?=some p→ -1≤p∧p<i∧0≤pri[i]?.getD 0∧pri[i]?.getD 0≤9:=by
 unfold nD;rw[Bool.and_eq_true,Bool.and_eq_true,decide_eq_true_eq,decide_eq_true_eq,List.all_eq_true];constructor
 ·rintro⟨_,I,U⟩;refine⟨I,fun i p hp=> ?_⟩;have:=of_decide_eq_true (U i (List.mem_range.2 (b8 hp).1));rw[hp]at this;exact this
 ·rintro⟨I,U⟩;refine⟨aq.symm,I,fun i aE=>decide_eq_true ?_⟩;have:=U i _ (a8 (List.mem_range.1 aE));rw[a8 (List.mem_range.1 aE)];exact this
theorem Twin.tree {σ:Nat→Nat} {par par' pri mm:List Int} {apl apl':Nat→Bool} (h:Twin σ par par' (fun k=>pri[k]?.getD 0) (fun k=>mm[k]?.getD 0) apl apl') (aq:pri.length=par.length) (lO:mm.length=par'.length) (rL:∀(i:Nat) (p:Int),par'[i]?=some p→ -1≤p∧p<i):nD par' mm=nD par pri:=by
 rw[Bool.eq_iff_iff,II aq,II lO,h.len];refine and_congr Iff.rfl ⟨fun bb i p hp=> ?_,fun bb j p hp=> ?_⟩
 ·have aE:=(b8 hp).1;obtain⟨_,_,ae,aJ⟩:=bb (σ i) _ (h.L1 i p hp);obtain⟨I,U⟩:=h.low i p hp;have:=h.Is i aE;rw[this]at ae aJ;exact⟨I,U,ae,aJ⟩
 ·obtain⟨i,aE,rfl⟩:=h.Mq j (b8 hp).1;obtain⟨_,_,ae,aJ⟩:=bb i _ (a8 aE);obtain⟨I,U⟩:=rL _ p hp;have:=h.Is i aE;rw[this];exact⟨I,U,ae,aJ⟩
theorem ahO {kp:bf→Bool} {rs:List bf} {i k:Nat} {r:bf} {q:Int} (_hi:rs[i]?=some r) (_hk:kp r=true) (ah:h2 kp rs i=k) (au:NZ kp rs i r q): -1≤q∧q<k:=by
 have le:∀{i:Nat} {o:Option Nat},tJ kp rs i o→∀m,o=some m→m≤i∧∃s,rs[m]?=some s∧kp s=true:=by
  intro i o aA;induction aA with
  |self a b=>intro m hm;obtain rfl:=Option.some.inj hm;exact⟨Nat.le_refl _,_,a,b⟩
  |up a b c e f bH=>intro m hm;obtain⟨g1,g2⟩:=bH m hm;exact⟨by omega,g2⟩
  |top=>intro m hm;cases hm
 rcases au with⟨cE,a2,o,a3,rfl⟩|⟨_,rfl⟩
 ·cases o with
  |none=>exact⟨by show (-1:Int)≤ -1;omega,by show (-1:Int)<k;omega⟩
  |some m=>
   obtain⟨g1,s,g2,g3⟩:=le a3 m rfl;have:=DU g2 g3 (show m<i by omega);exact⟨by show (-1:Int)≤((h2 kp rs m:Nat):Int);omega,by show ((h2 kp rs m:Nat):Int)<k;omega⟩
 ·exact⟨by omega,by omega⟩
noncomputable def hH (Lf:gm) (E:dC) (rs:List bf) (d:Int):bg×Int×Int×Int:=
 if (eL Lf E rs d).2.1≠0 then (v0,0,(eL Lf E rs d).2.1,(eL Lf E rs d).2.2)
 else if (eL Lf E rs d).1= -1 then (v0,0,10,-1)
 else if (eL Lf E rs d).1= -2 then (v0,0,11,-1)
 else if (iy Lf E (rs[(eL Lf E rs d).1.toNat]?.getD lx).v).2≠0 then (v0,0,(iy Lf E (rs[(eL Lf E rs d).1.toNat]?.getD lx).v).2,(eL Lf E rs d).1)
 else ((iy Lf E (rs[(eL Lf E rs d).1.toNat]?.getD lx).v).1,(eL Lf E rs d).1,0,0)
theorem Us {Lf:gm} {E eT:dC} {rs:List bf}:∀(l:List Nat) (acc:List Bool),(∀i∈l,∀r,rs[i]?=some r→xz E eT r.g)→(∀i∈l,∃r,rs[i]?=some r)→fG Lf E rs l acc=fG Lf eT rs l acc
 |[],_,_,_=>rfl
 |i::r,acc,h,af=>by
  obtain⟨s,ax⟩:=af i (by simp);have he:iy Lf E s.g=iy Lf eT s.g:=(h i (by simp) s ax).eval;unfold fG;rw[ax,Option.getD_some,he];simp only[Us r _ (fun j aB=>h j (by simp[aB])) (fun j aB=>af j (by simp[aB]))]
theorem ajb {Lf:gm} {E eT:dC} {rs:List bf} {d:Int} (hdt:E.dt=eT.dt) (h:∀(i:Nat) (r:bf),rs[i]?=some r→r.bK=d→xz E eT r.g∧xz E eT r.v):hH Lf E rs d=hH Lf eT rs d:=by
 have R:=xn (bV d eT.dt) rs;have de:∀i∈(c8 (bV d eT.dt) rs).1,∃r,rs[i]?=some r∧r.bK=d:=fun i aE=>by
  obtain⟨k,aa⟩:=List.getElem?_of_mem aE;obtain⟨_,_,r,I,U⟩:=R.uu k i aa;exact⟨r,I,Cx U⟩
 have aZ:fG Lf E rs (c8 (bV d eT.dt) rs).1 []=fG Lf eT rs (c8 (bV d eT.dt) rs).1 []:=Us _ _ (fun i aE r aH=>by
  obtain⟨s,I,U⟩:=de i aE;obtain rfl:=Option.some.inj (aH.symm.trans I);exact (h i _ aH U).1) (fun i aE=>(de i aE).elim fun r h=>⟨r,h.1⟩)
 have ax:eL Lf E rs d=eL Lf eT rs d:=by
  unfold eL;rw[hdt,aZ]
 unfold hH;rw[ax];by_cases aj:(eL Lf eT rs d).2.1≠0
 ·rw[if_pos aj,if_pos aj]
 rw[if_neg aj,if_neg aj];by_cases I:(eL Lf eT rs d).1= -1
 ·rw[if_pos I,if_pos I]
 rw[if_neg I,if_neg I];by_cases U:(eL Lf eT rs d).1= -2
 ·rw[if_pos U,if_pos U]
 rw[if_neg U,if_neg U];have hex:∃r,rs[(eL Lf eT rs d).1.toNat]?=some r∧r.bK=d:=by
  unfold eL at aj I U⊢;by_cases g0:(fG Lf eT rs (c8 (bV d eT.dt) rs).1 []).2.1≠0
  ·rw[if_pos g0]at aj;exact absurd g0 aj
  rw[if_neg g0]at I U⊢;generalize au:kK (c8 (bV d eT.dt) rs).2 (h6 rs (c8 (bV d eT.dt) rs).1) (fG Lf eT rs (c8 (bV d eT.dt) rs).1 []).1=q at*;by_cases g1:q<0
  ·rw[if_pos g1]at I U;have:=RS (par:=(c8 (bV d eT.dt) rs).2) (pri:=h6 rs (c8 (bV d eT.dt) rs).1) (apl:=(fG Lf eT rs (c8 (bV d eT.dt) rs).1 []).1);rw[au]at this;simp only at I U;omega
  ·rw[if_neg g1];have aD:=Md (par:=(c8 (bV d eT.dt) rs).2) (pri:=h6 rs (c8 (bV d eT.dt) rs).1) (apl:=(fG Lf eT rs (c8 (bV d eT.dt) rs).1 []).1);rw[au]at aD;have l_:q.toNat<(c8 (bV d eT.dt) rs).1.length:=by
    rw[R.oB,←R.pl];have:=aD (by omega);omega
   obtain⟨r,az,a6⟩:=de _ (List.getElem_mem l_);refine⟨r,?_,a6⟩;simp only[Int.toNat_natCast];rw[a8 l_,Option.getD_some];exact az
 obtain⟨r,aH,av⟩:=hex;rw[aH,Option.getD_some,(h _ r aH av).2.eval]
theorem JX {Lf:gm} {E:dC} {rs:List bf}:∀(l:List Nat) (acc:List Bool),((fG Lf E rs l acc).2.1=0↔∀i∈l,(rs[i]?.getD lx).g.length=0∨(iy Lf E (rs[i]?.getD lx).g).2=0)∧
  ((fG Lf E rs l acc).2.1=0→(fG Lf E rs l acc).1=acc++l.map (fun i=>decide ((rs[i]?.getD lx).g.length=0∨(iy Lf E (rs[i]?.getD lx).g).1.n=1)))
 |[],acc=>by simp[fG]
 |i::r,acc=>by
  unfold fG;by_cases aj:(rs[i]?.getD lx).g.length=0
  ·rw[if_pos aj];obtain⟨I,U⟩:=JX (Lf:=Lf) (E:=E) (rs:=rs) r (acc++[true]);refine⟨?_,fun h=> ?_⟩
   ·rw[I];constructor
    ·intro bb j aB;rcases List.mem_cons.1 aB with rfl|aB
     ·exact .inl aj
     ·exact bb j aB
    ·exact fun bb j aB=>bb j (by simp[aB])
   ·rw[U h,List.map_cons,decide_eq_true (.inl aj),List.append_assoc];rfl
  ·rw[if_neg aj];by_cases ae:(iy Lf E (rs[i]?.getD lx).g).2≠0
   ·rw[if_pos ae];refine⟨⟨fun h=>absurd h ae,fun h=> ?_⟩,fun h=>absurd h ae⟩;rcases h i (by simp)with h|h
    ·exact absurd h aj
    ·exact h
   ·rw[if_neg ae];obtain⟨I,U⟩:=JX (Lf:=Lf) (E:=E) (rs:=rs) r (acc++[decide ((iy Lf E (rs[i]?.getD lx).g).1.n=1)]);have Ph:(iy Lf E (rs[i]?.getD lx).g).2=0:=by omega
    refine⟨?_,fun h=> ?_⟩
    ·rw[I];simp[Ph]
    ·rw[U h];have:¬(rs[i]?.getD lx).g=[]:=fun e=>aj (by rw[e];rfl);simp[this]
theorem kM.RY {A B:List bf} {d:Int} (h:kM A B d) {Lf:gm} {E:dC}:((eL Lf E A d).2.1=0↔(eL Lf E B d).2.1=0)∧
  ((eL Lf E A d).2.1=0→((eL Lf E A d).1<0→(eL Lf E B d).1=(eL Lf E A d).1)∧(0≤(eL Lf E A d).1→0≤(eL Lf E B d).1∧∃r s,A[(eL Lf E A d).1.toNat]?=some r∧B[(eL Lf E B d).1.toNat]?=some s∧m' A B r s)):=by
 have eC:=xn (bV d E.dt) A;have iG:=xn (bV d E.dt) B;obtain⟨cE,a2⟩:=JX (Lf:=Lf) (E:=E) (rs:=A) (c8 (bV d E.dt) A).1 [];obtain⟨bY,bc⟩:=JX (Lf:=Lf) (E:=E) (rs:=B) (c8 (bV d E.dt) B).1 [];have fF:(fG Lf E A (c8 (bV d E.dt) A).1 []).2.1=0↔(fG Lf E B (c8 (bV d E.dt) B).1 []).2.1=0:=by
  rw[cE,bY];constructor
  ·intro g j aB;obtain⟨k,aa⟩:=List.getElem?_of_mem aB;obtain⟨_,_,s,I,U⟩:=iG.uu k j aa;obtain⟨i,r,g1,g2,g3⟩:=h.aaX I U;have:=g i (List.mem_of_getElem? (eC.at_ i r (b8 g1).1 g1 g2).1);obtain⟨AJ,az,a6⟩:=h.at_ g1 (Cx g2);rw[g3]at az;rw[g1,Option.getD_some,a6.g]at this;rw[az,Option.getD_some];exact this
  ·intro g i aE;obtain⟨k,aa⟩:=List.getElem?_of_mem aE;obtain⟨_,_,r,I,U⟩:=eC.uu k i aa;obtain⟨s,az,a6⟩:=h.at_ I (Cx U);have:=g _ (List.mem_of_getElem? (iG.at_ _ s (b8 az).1 az (by rw[←a6.keep];exact U)).1);rw[az,Option.getD_some,←a6.g]at this;rw[I,Option.getD_some];exact this
 have X6:(eL Lf E A d).2.1=(fG Lf E A (c8 (bV d E.dt) A).1 []).2.1:=by
  unfold eL;split
  ·rfl
  ·rename_i bb;split<;>(simp at bb;simp[bb])
 have hsB:(eL Lf E B d).2.1=(fG Lf E B (c8 (bV d E.dt) B).1 []).2.1:=by
  unfold eL;split
  ·rfl
  ·rename_i bb;split<;>(simp at bb;simp[bb])
 refine⟨by rw[X6,hsB,fF],fun aj=> ?_⟩;rw[X6]at aj;have VQ:=fF.1 aj;have w9:=a2 aj;have sS:=bc VQ;rw[List.nil_append]at w9 sS;have hrel:kK (c8 (bV d E.dt) B).2 (h6 B (c8 (bV d E.dt) B).1) (fG Lf E B (c8 (bV d E.dt) B).1 []).1=kh (AK A B d E.dt) (kK (c8 (bV d E.dt) A).2 (h6 A (c8 (bV d E.dt) A).1) (fG Lf E A (c8 (bV d E.dt) A).1 []).1):=by
  rw[w9,sS];have T:=h.ajV (dt:=E.dt) (apl:=fun i=>((c8 (bV d E.dt) A).1.map (fun i=>decide ((A[i]?.getD lx).g.length=0∨(iy Lf E (A[i]?.getD lx).g).1.n=1)))[i]?.getD false)
   (apl':=fun i=>((c8 (bV d E.dt) B).1.map (fun i=>decide ((B[i]?.getD lx).g.length=0∨(iy Lf E (B[i]?.getD lx).g).1.n=1)))[i]?.getD false) (fun i r aE aa=>by
    obtain⟨s,az,a6⟩:=h.at_ aE (Cx aa);have f1:=(eC.at_ i r (b8 aE).1 aE aa).1;have f2:=(iG.at_ _ s (b8 az).1 az (by rw[←a6.keep];exact aa)).1;simp only[List.getElem?_map,f1,f2,Option.map_some,Option.getD_some,aE,az,a6.g])
  have hlen:(c8 (bV d E.dt) B).2.length=(c8 (bV d E.dt) A).2.length:=by
   have hp:=T.len;exact hp
  have afF:nD (c8 (bV d E.dt) B).2 (h6 B (c8 (bV d E.dt) B).1)=nD (c8 (bV d E.dt) A).2 (h6 A (c8 (bV d E.dt) A).1):=T.tree (by unfold h6;rw[List.length_map,eC.oB,eC.pl]) (by unfold h6;rw[List.length_map,iG.oB,iG.pl]) (fun i p hp=>by
   obtain⟨k,aa,iI⟩:=T.Mq i (b8 hp).1;have I:=T.L1 k _ (a8 aa);rw[iI,hp]at I;have aB:=a8 (l:=(c8 (bV d E.dt) B).1) (i:=i) (by rw[iG.oB,←iG.pl];exact (b8 hp).1);obtain⟨_,g2,s,g3,g4⟩:=iG.uu i _ aB;obtain⟨_,q,au,jK⟩:=iG.at_ _ s (b8 g3).1 g3 g4;rw[g2,hp]at jK;obtain rfl:=Option.some.inj jK;exact ahO g3 g4 g2 au)
  unfold kK;rw[afF,hlen,List.length_map,List.length_map,eC.oB,iG.oB,←eC.pl,←iG.pl,hlen];by_cases bS:nD (c8 (bV d E.dt) A).2 (h6 A (c8 (bV d E.dt) A).1)=true
  ·rw[if_pos ⟨bS,rfl⟩,if_pos ⟨bS,rfl⟩];exact T.RY _
  ·rw[if_neg (fun bb=>bS bb.1),if_neg (fun bb=>bS bb.1)];rfl
 have BP:¬(fG Lf E A (c8 (bV d E.dt) A).1 []).2.1≠0:=fun bb=>bb aj;have ib:¬(fG Lf E B (c8 (bV d E.dt) B).1 []).2.1≠0:=fun bb=>bb VQ;have ae9:=Md (par:=(c8 (bV d E.dt) A).2) (pri:=h6 A (c8 (bV d E.dt) A).1) (apl:=(fG Lf E A (c8 (bV d E.dt) A).1 []).1);unfold eL;rw[if_neg BP,if_neg ib,hrel];generalize kK (c8 (bV d E.dt) A).2 (h6 A (c8 (bV d E.dt) A).1) (fG Lf E A (c8 (bV d E.dt) A).1 []).1=q at*;by_cases au:q<0
 ·have aq:kh (AK A B d E.dt) q=q:=by unfold kh;rw[if_pos au]
  rw[aq,if_pos au,if_pos au];exact⟨fun _=>rfl,fun bb=>by simp only at bb;omega⟩
 ·have aq:¬kh (AK A B d E.dt) q<0:=by unfold kh;rw[if_neg au];omega
  rw[if_neg au,if_neg aq];refine⟨fun bb=>by simp only at bb;omega,fun _=>⟨by simp only;omega,?_⟩⟩;have aa:q.toNat<(c8 (bV d E.dt) A).1.length:=by
   rw[eC.oB,←eC.pl];have:=ae9 (by omega);omega
  have ai:=a8 aa;obtain⟨_,g2,r,g3,g4⟩:=eC.uu _ _ ai;obtain⟨s,az,a6⟩:=h.at_ g3 (Cx g4);have f2:=(iG.at_ _ s (b8 az).1 az (by rw[←a6.keep];exact g4)).1;have afz:(kh (AK A B d E.dt) q).toNat=h2 (bV d E.dt) B (p_ A B (c8 (bV d E.dt) A).1[q.toNat]):=by
   unfold kh;rw[if_neg au,Int.toNat_natCast];unfold AK;rw[ai,Option.getD_some]
  refine⟨r,s,?_,?_,a6⟩
  ·simp only[Int.toNat_natCast,ai,Option.getD_some];exact g3
  ·simp only[Int.toNat_natCast,afz,f2,Option.getD_some];exact az
theorem kM.step {A B:List bf} {d:Int} (h:kM A B d) {Lf:gm} {E:dC} (aK:(hH Lf E A d).2.2.1=0):(hH Lf E B d).2.2.1=0∧(hH Lf E B d).1=(hH Lf E A d).1:=by
 obtain⟨I,U⟩:=h.RY (Lf:=Lf) (E:=E);unfold hH at aK⊢;by_cases a0:(eL Lf E A d).2.1≠0
 ·rw[if_pos a0]at aK;exact absurd aK a0
 have Gs:(eL Lf E A d).2.1=0:=by omega
 have eP:¬(eL Lf E B d).2.1≠0:=fun bb=>bb (I.1 Gs);obtain⟨ae,aJ⟩:=U Gs;rw[if_neg a0]at aK⊢;rw[if_neg eP];by_cases cE:(eL Lf E A d).1= -1
 ·rw[if_pos cE]at aK;exact absurd aK (by decide)
 rw[if_neg cE]at aK⊢;by_cases a2:(eL Lf E A d).1= -2
 ·rw[if_pos a2]at aK;exact absurd aK (by decide)
 rw[if_neg a2]at aK⊢;have lo:0≤(eL Lf E A d).1:=by
  rcases Int.lt_or_le (eL Lf E A d).1 0 with aD|ln
  ·exfalso;have:(eL Lf E A d).1= -1∨(eL Lf E A d).1= -2∨0≤(eL Lf E A d).1:=by
    unfold eL;rw[if_neg (by
     intro bb;unfold eL at Gs;rw[if_pos bb]at Gs;exact bb Gs)]
    have:=RS (par:=(c8 (bV d E.dt) A).2) (pri:=h6 A (c8 (bV d E.dt) A).1) (apl:=(fG Lf E A (c8 (bV d E.dt) A).1 []).1);split
    ·rename_i bb;simp only;omega
    ·right;right;simp only;omega
   omega
  ·exact ln
 obtain⟨bp,r,s,eJ,kc,et⟩:=aJ lo;rw[if_neg (by omega),if_neg (by omega)];rw[eJ,Option.getD_some]at aK⊢;rw[kc,Option.getD_some,←et.v];by_cases e:(iy Lf E r.v).2≠0
 ·rw[if_pos e]at aK;exact absurd aK e
 ·rw[if_neg e,if_neg e];exact⟨rfl,rfl⟩
def RH:Op→Bool
 | .move _=>true
 | .assign _=>true
 | .pick _ _ _=>true
 | .build _ _=>true
 | .load _ _=>true
 | .fieldAddr _ _ _=>true
 | .indexAddr _ _ _=>true
 | .binOp _ _ _ _ _=>true
 | .unOp _ _ _=>true
 | .extract _ _=>true
 |_=>false
section
variable {P:Program} {ops:Array Oper} {md:Region.Mode} {C:Array Bool→World→Prop}
theorem acT {α:Type} {s:Sem α} {g:α→Next} {w w':World} {f:FuncId} {args:Array Value} (ai:∀a,g a≠ .enter f args) (h:(do pure (g (←s)):Sem Next).run P w= .ok (.enter f args) w'):False:=by
 simp only[Sem.run_bind,Sem.run_pure]at h;generalize s.run P w=r at h
 cases r with
 |ok a w2=>simp only[Result.andThen]at h;injection h with I U;exact ai _ I
 |halt x w2=>simp only[Result.andThen]at h;cases h
theorem ahQ {o:Oper} (h:RH o.op=true) {r:Operand→Value} {w w':World} {f:FuncId} {args:Array Value} (e:(execOp r o).run P w= .ok (.enter f args) w'):False:=by
 unfold execOp at e
 cases nZ:o.op<;>simp only[nZ,RH,Bool.false_eq_true]at h<;>simp only[nZ]at e
 all_goals first
  |(simp only[Sem.run_pure]at e;cases e)
  |exact acT (fun a=>by simp) e
def H_ (P:Program) (C:World→Prop) (w:World) (v:Value):Result Next→Prop
 | .ok (.value u) w'=>C w'∧u=v
 | .ok .skip w'=>C w'∧v=undef
 | .ok (.enter f args) w'=>w'=w∧Calls P f args w (fun e yX=>e= .returned v∧C yX)
 |_=>False
def Au (P:Program) (o:Oper) (a:Act) (C:World→Prop) (w:World) (v:Value):Prop:=H_ P C w v ((execOp a.eval o).run P w)
def Q7 (P:Program) (o:Oper) (i:Nat) (a:Act) (C:Array Bool→World→Prop) (K:Act→Prop):Prop:=∃v,(∀L w,C L w→Au P o a (C (L.setIfInBounds i true)) w v)∧K (a.put o.dst v)
def idle (C:Array Bool→World→Prop) (i:Nat):Prop:=∀L w,C L w→C (L.setIfInBounds i true) w
def r1 (P:Program) (ops:Array Oper) (C:Array Bool→World→Prop) (i:Nat) (K:Act→Prop) (a:Act):Prop:=
 match ops[i]? with
 |none=>K a
 |some o=>if Region.wanted o (yielded ops a.tmps)then Q7 P o i a C K else idle C i∧K (a.put o.dst undef)
theorem agL {i:Nat} {a:Act} {K F8:Act→Prop} (h:∀a,K a→F8 a) (bb:r1 P ops C i K a):r1 P ops C i F8 a:=by
 unfold r1 at*;split
 ·exact h _ (by simpa[*] using bb)
 ·rename_i o aL;simp only[aL]at bb;split
  ·rename_i hw;simp only[hw,if_true]at bb;obtain⟨v,I,U⟩:=bb;exact⟨v,I,h _ U⟩
  ·rename_i hw;simp only[hw]at bb;exact⟨bb.1,h _ bb.2⟩
def qP (P:Program) (ops:Array Oper) (C:Array Bool→World→Prop) (Q:Act→Prop):Nat→List Oper→Act→Prop
 |_,[],a=>Q a
 |k,o::rest,a=>if Region.wanted o (yielded ops a.tmps)then Q7 P o k a C (qP P ops C Q (k+1) rest)else idle C k∧qP P ops C Q (k+1) rest (a.put o.dst undef)
def H9 (P:Program) (md:Region.Mode) (ops:Array Oper) (C:Array Bool→World→Prop) (Q:Act→Prop):Nat→Array Bool→Act→Prop
 |0,listed,a=>Region.ready md ops listed=[]∧Q a
 |f+1,listed,a=>(Region.ready md ops listed=[]→Q a)∧∀i∈Region.ready md ops listed,r1 P ops C i (H9 P md ops C Q f (listed.setIfInBounds i true)) a
theorem aky {o:Oper} {i:Nat} {a:Act} {L:Array Bool} {K:Act→Prop} {F8:Act→World→Prop} {Q':Exit→Act→World→Prop} {w:World} (hw:C L w) (h:∀a w',C (L.setIfInBounds i true) w'→K a→F8 a w') (bb:Q7 P o i a C K):o.wp P a w F8 Q':=by
 obtain⟨v,I,U⟩:=bb;have ae:=I L w hw;unfold Au at ae;unfold Oper.wp;generalize (execOp a.eval o).run P w=r at*
 cases r with
 |ok n w'=>
  cases n<;>simp only[H_]at ae<;>simp only[Oper.upon]
  case value u=>
   rw[ae.2];exact h _ _ ae.1 U
  case skip=>
   rw[←ae.2];exact h _ _ ae.1 U
  case enter f args=>
   obtain⟨az,ah⟩:=ae;rw[az];exact ah.mono fun e yX ⟨he,afH⟩=>by subst he;exact h _ _ afH U
 |halt x w'=>simp only[H_]at ae
theorem Sm {Q:Act→Prop} {Q':Exit→Act→World→Prop} (cJ:∀L a w,Region.ready md ops L=[]→C L w→Q a→Q' .normal a w):∀(f:Nat) (listed:Array Bool) (a:Act) (w:World),C listed w→H9 P md ops C Q f listed a→wpAny P md ops Q' f listed a w
 |0,_,_,_,hw,h=>⟨h.1,cJ _ _ _ h.1 hw h.2⟩
 |f+1,listed,a,w,hw,h=>⟨fun aj=>cJ _ _ _ aj hw (h.1 aj),fun i aE=>by
  have bb:=h.2 i aE;obtain⟨-,o,aL,-⟩:=mem_ready.1 aE;unfold r1 at bb;unfold wpOp;simp only[aL]at bb⊢;split
  ·rename_i af;simp only[af,if_true]at bb;exact .inl (aky hw (fun d' w' pW=>Sm cJ f _ d' w' pW) bb)
  ·rename_i af;simp only[af]at bb;exact Sm cJ f _ _ _ (bb.1 _ _ hw) bb.2⟩
def Av (P:Program) (ops:Array Oper) (C:Array Bool→World→Prop) (o:Oper) (i:Nat) (v:Value) (a:Act):Prop:=
 (Region.wanted o (yielded ops a.tmps)=true∧∀L w,C L w→Au P o a (C (L.setIfInBounds i true)) w v)∨(Region.wanted o (yielded ops a.tmps)=false∧idle C i∧v=undef)
theorem Av.op {i:Nat} {o:Oper} {v:Value} {a:Act} (aE:ops[i]?=some o) (db:Av P ops C o i v a) {K:Act→Prop} (h:K (a.put o.dst v)):r1 P ops C i K a:=by
 unfold r1;simp only[aE];rcases db with⟨hw,ay⟩|⟨hw,hid,rfl⟩
 ·simp only[hw,if_true];exact⟨v,ay,h⟩
 ·simp only[hw,Bool.false_eq_true,if_false];exact⟨hid,h⟩
theorem agN {i:Nat} {o:Oper} {a:Act} {K:Act→Prop} (aE:ops[i]?=some o) (h:r1 P ops C i K a):∃v,Av P ops C o i v a∧K (a.put o.dst v):=by
 unfold r1 at h;simp only[aE]at h;by_cases hw:Region.wanted o (yielded ops a.tmps)=true
 ·simp only[hw,if_true]at h;obtain⟨v,I,U⟩:=h;exact⟨v,.inl ⟨hw,I⟩,U⟩
 ·simp only[hw]at h;exact⟨undef,.inr ⟨by simpa using hw,h.1,rfl⟩,h.2⟩
theorem agM {i j:Nat} {k5 k6:Oper} {v:Value} (aB:ops[j]?=some k6) (Hh:k5.apart ops k6=true) (Co:∀cs b,k5.op≠ .select cs b) (hsj:∀cs b,k6.op≠ .select cs b) {K:Act→Prop} {a:Act}
  (db:Av P ops C k5 i v a) (h:r1 P ops C j K (a.put k5.dst v)):r1 P ops C j (fun d'=>Av P ops C k5 i v d'∧K (d'.put k5.dst v)) a:=by
 obtain⟨I,U,ae⟩:=Oper.apart_spec Hh;have keep:∀u,Av P ops C k5 i v (a.put k6.dst u):=fun u=>by
  have az:=execOp_put k5 Co a k6.dst u ae;have a6:=wanted_put k5 a k6.dst u ae;unfold Av Au at*;rw[az,a6];exact db
 unfold r1 at*;simp only[aB]at*;rw[wanted_put k6 a k5.dst v I]at h;split
 ·rename_i hw;simp only[hw,if_true]at h;obtain⟨u,hu,aA⟩:=h;refine⟨u,fun L w pW=> ?_,keep u,by rw[←Act.put_comm a v u U];exact aA⟩;have:=hu L w pW;unfold Au at*;rwa [execOp_put k6 hsj a k5.dst v I]at this
 ·rename_i hw;simp only[hw]at h;exact⟨h.1,keep _,by rw[←Act.put_comm a v undef U];exact h.2⟩
theorem agK {Q:Act→Prop} {i:Nat} {k5:Oper} {v:Value} (aE:ops[i]?=some k5) (rS:∀(j:Nat) (o:Oper) cs b,ops[j]?=some o→o.op≠ .select cs b):
  ∀(f:Nat) (listed:Array Bool) (a:Act),
   (∀j k6,ops[j]?=some k6→j≠i→listed.getD j true=false→(∀e∈k6.after,Region.binds md e=true→e.on≠i)→k5.apart ops k6=true)→
   i∈Region.ready md ops listed→Av P ops C k5 i v a→
   H9 P md ops C Q f (listed.setIfInBounds i true) (a.put k5.dst v)→H9 P md ops C Q (f+1) listed a:=by
 intro f;induction f with
 |zero=>
  intro listed a _ aH db H;refine⟨fun h=>(by rw[h]at aH;cases aH),fun j aB=> ?_⟩;by_cases gu:j=i
  ·subst gu;exact db.op aE H
  ·have:=ready_mono aB gu;rw[H.1]at this
   cases this
 |succ f bH=>
  intro listed a Hq aH db H;refine⟨fun h=>(by rw[h]at aH;cases aH),fun j aB=> ?_⟩;by_cases gu:j=i
  ·subst gu;exact db.op aE H
  ·have I:=H.2 j (ready_mono aB gu);obtain⟨Hz,k6,Cg,ht⟩:=mem_ready.1 aB;have Cd:∀e∈k6.after,Region.binds md e=true→e.on≠i:=fun e he J heq=>by
    have I:=ht e he J;rw[heq,getD_both (mem_ready.1 aH).1]at I
    cases I
   have U:=agM Cg (Hq j k6 Cg gu Hz Cd) (fun cs b=>rS i k5 cs b aE) (fun cs b=>rS j k6 cs b Cg) db I;have P1:∀k ok,ops[k]?=some ok→k≠i→(listed.setIfInBounds j true).getD k true=false→
     (∀e∈ok.after,Region.binds md e=true→e.on≠i)→k5.apart ops ok=true:=fun k ok aa jI qM gD=>by
    refine Hq k ok aa jI ?_ gD;by_cases Em:j=k
    ·subst Em;exact Hz
    ·rw[getD_set_ne true Em]at qM;exact qM
   refine agL (fun d' ae=>bH (listed.setIfInBounds j true) d' P1 (ready_mono aH (Ne.symm gu)) ae.1 ?_) U;rw[Array.setIfInBounds_comm _ _ gu];exact ae.2
theorem Zf {Q:Act→Prop} (ax:Region.noSelect ops=true):∀(l:List Oper) (k:Nat) (listed:Array Bool) (a:Act),(∀j,l[j]?=ops[k+j]?)→
  Region.lexFrom md ops l.length k listed=true→qP P ops C Q k l a→H9 P md ops C Q l.length listed a
 |[],_,_,_,_,aU,h=>⟨by simpa[Region.lexFrom] using aU,h⟩
 |o::l,k,listed,a,aq,aU,h=>by
  have aj:ops[k]?=some o:=by simpa using (aq 0).symm
  simp only[List.length_cons,Region.lexFrom,Bool.and_eq_true]at aU;obtain⟨⟨aH,bO⟩,GY⟩:=aU;have df:r1 P ops C k (qP P ops C Q (k+1) l) a:=by unfold r1;simp only[aj];exact h
  obtain⟨v,db,ab⟩:=agN aj df;exact agK aj (Region.noSelect_spec ax) l.length listed a (Region.free_spec aj bO) (by simpa using aH) db
   (Zf ax l (k+1) _ _ (fun j=>by have:=aq (j+1);simpa[Nat.add_assoc,Nat.add_comm 1 j] using this) GY ab)
def ZZ (md:Region.Mode) (ops:Array Oper):Bool:=(List.range ops.size).all fun k=>match ops[k]? with
 |none=>true
 |some o=>o.after.all fun e=> !Region.binds md e||decide (e.on<k)
theorem acs (aL:ZZ md ops=true) {L:Array Bool} (ck:L.size=ops.size) (h:Region.ready md ops L=[]):∀i,i<ops.size→L.getD i false=true:=by
 intro i;induction i using Nat.strongRecOn with
 |ind i bH=>
  intro aE
  cases J:L.getD i false with
  |true=>rfl
  |false=>
   exfalso;have av:L.getD i true=false:=by
    have z':i<L.size:=by omega
    simp only[Array.getD,z',dite_true]at J⊢;exact J
   have rM:i∈Region.ready md ops L:=mem_ready.2 ⟨av,ops[i],Array.getElem?_eq_getElem aE,fun e he vw=>by
    have I:=List.all_eq_true.1 aL i (List.mem_range.2 aE);rw[Array.getElem?_eq_getElem aE]at I;simp only[Array.all_eq_true_iff_forall_mem]at I;have U:e.on<i:=by simpa[vw] using I e he
    exact bH e.on U (by omega)⟩
   rw[h]at rM
   cases rM
theorem v_ {id:Nat} {Q:Exit→Act→World→Prop} {a:Act} {w:World} {l:List Oper} (hm:P.follows .mixedOrders=true) (aU:Region.lexB .any l.toArray=true) (aL:ZZ .any l.toArray=true)
  (ck:∀L w,C L w→L.size=l.length) (hC:C (Array.replicate l.length false) w.drew) (h:qP P l.toArray C (fun d'=>∀L w',(∀i,i<l.length→L.getD i false=true)→C L w'→Q .normal d' w') 0 l a):
  (Code.region id l.toArray true).wp P Q a w:=by
 simp only[Region.lexB,Bool.and_eq_true]at aU;refine wp_region_any hm (Sm (Q:=fun d'=>∀L w',(∀i,i<l.length→L.getD i false=true)→C L w'→Q .normal d' w') (C:=C) (fun L _ w' aj pW h=>h L w' (fun i aE=>acs aL (by rw[ck L w' pW];simp) aj i (by simpa using aE)) pW) _ _ _ _ (by simpa using hC) ?_);have:=Zf (C:=C) (md:= .any) aU.1 l 0 (Array.replicate l.toArray.size false) a (by simp) (by simpa using aU.2) h;simpa using this
end
abbrev ia:=Nat×Nat×TypeId×Array Value
structure gl (W0:World) (n:Nat) (S:List ia) (L:Array Bool) (w:World):Prop where
 sZ:L.size=n
 os:w.os=W0.os
 tape:w.tape=W0.tape
 output:w.output=W0.output
 size:W0.heap.size≤w.heap.size
 block:∀b,b<W0.heap.size→(∀s∈S,b≠s.2.1)→w.heap[b]?=W0.heap[b]?
 own:∀s∈S,∃cs,ao w s.2.1 s.2.2.1 cs∧cs.size=s.2.2.2.size∧(L.getD s.1 false=true→cs=s.2.2.2)
structure dc (W0:World) (n:Nat) (S:List ia) where
 W:World
 L:Array Bool
 h:gl W0 n S L W
section
variable {P:Program} {ops:Array Oper} {W0:World} {n:Nat} {S:List ia}
theorem VN {L:Array Bool} {i j:Nat} (h:i≠j):(L.setIfInBounds i true).getD j false=L.getD j false:=getD_set_ne false h
theorem gl.idle {i:Nat} (aE:∀s∈S,s.1≠i):idle (gl W0 n S) i:=fun L w h=>
 ⟨by rw[Array.size_setIfInBounds];exact h.sZ,h.os,h.tape,h.output,h.size,h.block,fun s ax=>by
  obtain⟨cs,I,U,ae⟩:=h.own s ax;exact⟨cs,I,U,fun bL=>ae (by rwa [VN (Ne.symm (aE s ax))]at bL)⟩⟩
theorem gl.start (bj:∀s∈S,∃cs,ao W0 s.2.1 s.2.2.1 cs∧cs.size=s.2.2.2.size):gl W0 n S (Array.replicate n false) W0.drew:=
 ⟨by simp,rfl,rfl,rfl,Nat.le_refl _,fun _ _ _=>rfl,fun s ax=>by
  obtain⟨cs,I,U⟩:=bj s ax;refine⟨cs,I,U,fun h=> ?_⟩;simp only[Array.getD,Array.size_replicate]at h;split at h<;>simp at h⟩
theorem dc.ne (bj:∀s∈S,∃cs,ao W0 s.2.1 s.2.2.1 cs∧cs.size=s.2.2.2.size):Nonempty (dc W0 n S):=⟨⟨W0.drew,_,gl.start bj⟩⟩
theorem dc.cell {b o:Nat} {v:Value} (bQ:∀s∈S,b≠s.2.1) (J:b<W0.heap.size) (ah:W0.cell? ⟨b,o,none⟩=some v) (x:dc W0 n S):x.W.cell? ⟨b,o,none⟩=some v:=by
 rw[World.cell?_of_block (a:=⟨b,o,none⟩) (x.h.block b J bQ)];exact ah
theorem gl.kept {L:Array Bool} {w w':World} (h:gl W0 n S L w') (aa:Kept w W0) (ai:∀s∈S,w.heap.size≤s.2.1):Kept w w':=
 ⟨h.os.trans aa.os,h.tape.trans aa.tape,h.output.trans aa.output,Nat.le_trans aa.size h.size,fun b J=>(h.block b (bd J aa.size) (fun s ax=>by have:=ai s ax;omega)).trans (aa.block b J)⟩
theorem gl.new {L:Array Bool} {w':World} (h:gl W0 n S L w') (bL:∀i,i<n→L.getD i false=true) {s:ia} (ax:s∈S) (aA:s.1<n):ao w' s.2.1 s.2.2.1 s.2.2.2:=by
 obtain⟨cs,I,-,ae⟩:=h.own s ax;rw[ae (bL _ aA)]at I;exact I
theorem lu {Q:Act→Prop}:∀(a7 r:List Oper) (k:Nat) (a:Act),a7.all (fun o=>RH o.op)=true→(∀s∈S,s.1<k∨k+a7.length≤s.1)→
  wpQuiet P ops (fun w'=>∃x:dc W0 n S,w'=x.W) (fun a=>qP P ops (gl W0 n S) Q (k+a7.length) r a) a7 a→qP P ops (gl W0 n S) Q k (a7++r) a
 |[],r,k,a,_,_,h=>h
 |o::a7,r,k,a,hp,bj,h=>by
  rw[List.cons_append];rw[List.all_cons,Bool.and_eq_true]at hp;have hid:idle (gl W0 n S) k:=gl.idle fun s ax=>by have:=bj s ax;rw[List.length_cons]at this;omega
  have zZ:∀s∈S,s.1<k+1∨k+1+a7.length≤s.1:=fun s ax=>by have:=bj s ax;rw[List.length_cons]at this;omega
  have e:k+(o::a7).length=k+1+a7.length:=by rw[List.length_cons];omega
  rw[e]at h;unfold wpQuiet at h;unfold qP;split
  ·rename_i hw;rw[if_pos hw]at h;obtain⟨v,I,U⟩:=h;refine⟨v,fun L w bL=> ?_,lu a7 r (k+1) _ hp.2 zZ U⟩;have ae:=I w ⟨⟨w,L,bL⟩,rfl⟩;unfold Oper.quietAt at ae;unfold Au;have aJ:=fun f args w'=>ahQ (P:=P) hp.1 (r:=a.eval) (w:=w) (w':=w') (f:=f) (args:=args);generalize (execOp a.eval o).run P w=q at*
   cases q with
   |ok Io w'=>
    cases Io<;>simp only[Oper.quietUpon]at ae<;>simp only[H_]
    case value u=>exact⟨ae.1▸hid L w bL,ae.2⟩
    case skip=>exact⟨ae.1▸hid L w bL,ae.2⟩
    case enter f args=>exact (aJ f args w' rfl).elim
   |halt x w'=>simp only[Oper.quietUpon]at ae
  ·rename_i hw;rw[if_neg hw]at h;exact⟨hid,lu a7 r (k+1) _ hp.2 zZ h⟩
theorem Mh (g b:Nat) (h:b≠g):∀(cs:List Value) (o:Nat) (w:World),(w.setCells g o cs).heap[b]?=w.heap[b]?
 |[],_,_=>rfl
 |c::cs,o,w=>(Mh g b h cs (o+1) _).trans (Below.heap_setCell w ⟨g,o,none⟩ c b h)
theorem R0 (g:Nat):∀(cs:List Value) (o:Nat) (w:World),(w.setCells g o cs).os=w.os∧(w.setCells g o cs).tape=w.tape∧(w.setCells g o cs).output=w.output∧(w.setCells g o cs).heap.size=w.heap.size
 |[],_,_=>⟨rfl,rfl,rfl,rfl⟩
 |c::cs,o,w=>by
  obtain⟨I,U,ae,aJ⟩:=R0 g cs (o+1) (w.setCell ⟨g,o,none⟩ c);exact⟨I.trans rfl,U.trans rfl,ae.trans rfl,aJ.trans (by simp)⟩
theorem RZ {g:Nat} {t:TypeId}:∀(cs pre old:List Value) (w:World),ao w g t (pre++old).toArray→old.length=cs.length→ao (w.setCells g pre.length cs) g t (pre++cs).toArray
 |[],pre,old,w,h,aq=>by
  have:old=[]:=List.length_eq_zero_iff.1 aq;subst this;exact h
 |c::cs,pre,old,w,h,aq=>by
  cases old with
  |nil=>cases aq
  |cons jv old=>
   have I:=h.aP pre.length c;have e:((pre++jv::old).toArray.setIfInBounds pre.length c)=((pre++[c])++old).toArray:=by simp
   rw[e]at I;have U:=RZ cs (pre++[c]) old _ I (by simpa using aq);rw[List.length_append,List.length_singleton,List.append_assoc]at U;exact U
theorem vN {C:Array Bool→World→Prop} {Q:Act→Prop} {k:Nat} {a:Act} (h:Q a):qP P ops C Q k [] a:=h
def na (S:List ia):Prop:=S.Pairwise (fun a b=>a.1≠b.1∧a.2.1≠b.2.1)
theorem na.apart:∀{S:List ia},na S→∀x∈S,∀s∈S,s≠x→s.1≠x.1∧s.2.1≠x.2.1
 |[],_,x,af,_,_,_=>by cases af
 |y::S,h,x,af,s,ax,bQ=>by
  obtain⟨I,U⟩:=List.pairwise_cons.1 h;rcases List.mem_cons.1 af with az|az<;>rcases List.mem_cons.1 ax with a6|a6
  ·exact absurd (a6.trans az.symm) bQ
  ·subst az;exact⟨(I s a6).1.symm,(I s a6).2.symm⟩
  ·subst a6;exact I x az
  ·exact na.apart U x az s a6 bQ
theorem nx {Q:Act→Prop} {o:Oper} {r:List Oper} {k:Nat} {a:Act} {ty T:TypeId} {x y:Operand} {g:Nat} {cs:List Value} (ax:((k,g,T,cs.toArray):ia)∈S) (hu:∀s∈S,s≠(k,g,T,cs.toArray)→s.1≠k∧s.2.1≠g)
  (hw:Region.wanted o (yielded ops a.tmps)=true) (av:o.dst=none) (aL:o.op= .store ty x y) (af:a.eval x= .pointer (some ⟨g,0,none⟩)) (db:a.eval y= .agg cs.toArray) (aE:(P.info? ty).map (·.size)=some cs.length) (I:cs.all (·.oneCell')=true)
  (h:qP P ops (gl W0 n S) Q (k+1) r a):qP P ops (gl W0 n S) Q k (o::r) a:=by
 unfold qP;rw[if_pos hw];have he:a.put o.dst undef=a:=by rw[av];rfl
 refine⟨undef,fun L w bL=> ?_,by rw[he];exact h⟩;obtain⟨old,aU,ck,-⟩:=bL.own _ ax;simp only at aU ck;have hz':old.toList.length=cs.length:=by simpa using ck
 have bS:w.there g 0 cs.toArray.size:=fun j aB=>by
  rw[Nat.zero_add,aU.cell,aU.frozen];refine⟨?_,rfl⟩;have:j<old.size:=by rw[ck];exact aB
  rw[Array.getElem?_eq_getElem this];rfl
 unfold Au execOp;have aG:=run_storeAt_mid (P:=P) w g 0 ty cs.toArray bS (by simpa using aE) (by simpa using I);simp only[aL,af,db,Sem.run_bind,Sem.run_pure,aG,Result.andThen_ok];refine⟨?_,rfl⟩;obtain⟨az,a6,b7,fh⟩:=R0 g cs 0 w;have hBn:ao (w.setCells g 0 cs) g T cs.toArray:=by
  have:=RZ (t:=T) cs [] old.toList w (by simpa using aU) hz';simpa using this
 refine⟨by rw[Array.size_setIfInBounds];exact bL.sZ,az.trans bL.os,a6.trans bL.tape,b7.trans bL.output,by simp only[fh];exact bL.size,fun b J bQ=>(Mh g b (bQ _ ax) cs 0 w).trans (bL.block b J bQ),fun s X5=> ?_⟩;by_cases X9:s=(k,g,T,cs.toArray)
 ·subst X9;exact⟨_,hBn,rfl,fun _=>rfl⟩
 ·obtain⟨aa,ai⟩:=hu s X5 X9;obtain⟨aM,g1,g2,g3⟩:=bL.own s X5;exact⟨aM,(Mh g s.2.1 ai cs 0 w).trans g1,g2,fun aq=>g3 (by rwa [VN (Ne.symm aa)]at aq)⟩
structure xS (X:World) where
 W:World
 h:W=X
instance (X:World):Nonempty (xS X):=⟨⟨X,rfl⟩⟩
theorem xS.pure {f:FuncId} {args:Array Value} {X:World} {x:xS X} {v:Value} (h:Calls P f args x.W fun e w'=>e= .returned v∧x.W=w'):Calls P f args x.W fun e yX=>e= .returned v∧∃y:xS X,yX=y.W:=
 h.mono fun _ _ ⟨he,aa⟩=>⟨he,x,aa.symm⟩
theorem Q8 {Q:Act→Prop} {o:Oper} {r:List Oper} {k:Nat} {a a2:Act} (v:Value) (aa:∀s∈S,s.1≠k) (hw:Region.wanted o (yielded ops a.tmps)=true)
  (I:∀X:World,wpQuiet P ops (fun w'=>∃x:xS X,w'=x.W) (fun d'=>d'=a2) [o] a) (afi:∀u,a.put o.dst u=a2→u=v) (h:qP P ops (gl W0 n S) Q (k+1) r a2):qP P ops (gl W0 n S) Q k (o::r) a:=by
 have key:∀X:World,(o.quietAt P a (fun w'=>∃x:xS X,w'=x.W) X v)∧a.put o.dst v=a2:=fun X=>by
  have U:=I X;unfold wpQuiet at U;rw[if_pos hw]at U;obtain⟨u,aO,aN⟩:=U;have cK:a.put o.dst u=a2:=aN;have e:=afi u cK;subst e;exact⟨aO X ⟨⟨X,rfl⟩,rfl⟩,cK⟩
 unfold qP;rw[if_pos hw];refine⟨v,fun L w bL=> ?_,by rw[(key W0).2];exact h⟩;have ae:=(key w).1;unfold Oper.quietAt at ae;unfold Au;have hid:=gl.idle (W0:=W0) (n:=n) aa;generalize (execOp a.eval o).run P w=q at*
 cases q with
 |ok Io w'=>
  cases Io<;>simp only[Oper.quietUpon]at ae<;>simp only[H_]
  case value u=>exact⟨ae.1▸hid L w bL,ae.2⟩
  case skip=>exact⟨ae.1▸hid L w bL,ae.2⟩
  case enter f args=>
   obtain⟨az,ah⟩:=ae;refine⟨az,ah.mono ?_⟩;rintro e yX ⟨he,⟨y,db⟩⟩;exact⟨he,by rw[db,y.h];exact hid L w bL⟩
 |halt x w'=>simp only[Oper.quietUpon]at ae
end
section
open Go.ChangeShapes Go.WideShapes Go.ChangeAt Go.RowKit Go.Joins Go.Deep
section
variable {H:Type} {enc:TypeId×Value→H} {w:World}
theorem hd.pc {α:Type} {t e:TypeId} {k:Nat} {v:Value} {P:World→Nat→Nat→α→Prop} (bS:prog.underlying t=some (.slice e)) (hC:prog.cellsOf e=k) (aa:0<k) (z:Nat) (ck:prog.bytesOf e=z) (QK:16≤z) (hlen:∀cs,Reads enc w e cs→cs.length=k)
  (dJ:∀cs b o,cs.length=k→(∀j,j<k→w.cell? ⟨b,o+j,none⟩=cs[j]?)→hd enc w e cs→∃x,P w b o x) (h:hd enc w t [v]):∃xs,cH k P w v xs:=by
 obtain⟨A,n,cap,rfl,ah,aA,af⟩:=h.slice bS hC aa z ck QK hlen;rcases Nat.eq_zero_or_pos n with aj|hp
 ·subst aj;exact⟨[],A,cap,rfl,by simp,by simp,fun h=>absurd h (by simp)⟩
 obtain⟨b,off,aK,J,hv⟩:=af hp;obtain⟨xs,aq,lq⟩:=Gz (p:=fun i (x:α)=>P w b (off+i*k) x) n (fun i aE=>by
  obtain⟨cs,eb,aO,aN⟩:=hv i aE;exact dJ cs b (off+i*k) eb aO aN)
 exact⟨xs,A,cap,by rw[aq],by omega,by omega,fun _=>⟨b,off,aK,J,lq⟩⟩
theorem hd.xf {t:TypeId} {g_:Array Field} {cs:List Value} {b o:Nat} {k:Nat} (h:hd enc w t cs) (aq:cs.length=k) (ah:∀j,j<k→w.cell? ⟨b,o+j,none⟩=cs[j]?) (bS:prog.underlying t=some (.struct g_)) (i q:Nat) (f:Field) (bO:g_[i]?=some f) (aL:f.offset=q) (bl:f.type=3) (au:q<k):∃n,k_ w b (o+q) n:=by
 obtain⟨u,g,r⟩:=h.vR bS i q 3 f bO aL bl (by kernel_rfl) (by omega);obtain⟨n,rfl,I,U⟩:=r.reads.int64;exact⟨n,(ah q au).trans g,I,U⟩
theorem hd.two {t T:TypeId} {g_ gs:Array Field} {cs:List Value} {b o:Nat} {k:Nat} (h:hd enc w t cs) (aq:cs.length=k) (ah:∀j,j<k→w.cell? ⟨b,o+j,none⟩=cs[j]?) (bS:prog.underlying t=some (.struct g_)) (i q:Nat) (f:Field) (bO:g_[i]?=some f) (aL:f.offset=q) (bl:f.type=T) (iI:prog.cellsOf T=2)
  (hu:prog.underlying T=some (.struct gs)) (g0 g1:Field) (gY:gs[0]?=some g0) (az:gs[1]?=some g1) (a0:g0.offset=0) (cE:g1.offset=1) (eP:g0.type=3) (bY:g1.type=3) (au:q+1<k):(∃n,k_ w b (o+q) n)∧∃n,k_ w b (o+(q+1)) n:=by
 have U:=h.sub bS i q 2 T f bO aL bl iI;have mE:((cs.drop q).take 2).length=2:=by rw[List.length_take,List.length_drop];omega
 have fE:∀j,j<2→w.cell? ⟨b,o+q+j,none⟩=((cs.drop q).take 2)[j]?:=fun j aB=>by
  rw[List.getElem?_take_of_lt aB,List.getElem?_drop,←ah (q+j) (by omega),Nat.add_assoc]
 have i0:=U.xf mE fE hu 0 0 g0 gY a0 eP (by decide);have i1:=U.xf mE fE hu 1 1 g1 az cE bY (by decide);exact⟨i0,by rw[←Nat.add_assoc];exact i1⟩
theorem hd.Cv {α:Type} {t T:TypeId} {R:World→Value→α→Prop} {g_:Array Field} {cs:List Value} {b o:Nat} {k:Nat} (h:hd enc w t cs) (aq:cs.length=k) (ah:∀j,j<k→w.cell? ⟨b,o+j,none⟩=cs[j]?) (bS:prog.underlying t=some (.struct g_)) (i q:Nat) (f:Field) (bO:g_[i]?=some f) (aL:f.offset=q) (bl:f.type=T) (I:prog.cellsOf T=1) (au:q<k)
  (aw:∀v,hd enc w T [v]→∃x,R w v x):∃x,qn R w b (o+q) x:=by
 obtain⟨u,g,r⟩:=h.vR bS i q T f bO aL bl I (by omega);obtain⟨x,af⟩:=aw u r;exact⟨x,u,(ah q au).trans g,af⟩
theorem hd.cF {t:TypeId} {g_:Array Field} {cs:List Value} {b o:Nat} {k:Nat} (h:hd enc w t cs) (aq:cs.length=k) (ah:∀j,j<k→w.cell? ⟨b,o+j,none⟩=cs[j]?) (bS:prog.underlying t=some (.struct g_)) (i q:Nat) (f:Field) (bO:g_[i]?=some f) (aL:f.offset=q) (bl:f.type=9) (au:q<k):∃s,sg w b (o+q) s:=by
 obtain⟨u,g,r⟩:=h.vR bS i q 9 f bO aL bl (by kernel_rfl) (by omega);obtain⟨s,rfl,ax⟩:=r.R7;exact⟨s,(ah q au).trans g,ax⟩
theorem ajn {cs:List Value} (h:Reads enc w 9 cs):cs.length=1:=by
 obtain⟨n,m,h⟩:=h;obtain⟨s,az,_⟩:=DataW.trod_string underlying9 h;rw[az];rfl
theorem ahA {v:Value} (h:hd enc w 53 [v]):∃xs,qq w v xs:=
 h.pc akb ac2 (by decide) 16 (by kernel_rfl) (by decide) (fun _ h=>ajn h) fun cs b o eb aO aN=>by
  match cs,eb with
  |[u],_=>
   obtain⟨s,rfl,ax⟩:=aN.R7;exact⟨s,aO 0 (by decide),ax⟩
theorem ahx {v:Value} (h:hd enc w 58 [v]):∃xs,cH 5 jZ w v xs:=
 h.pc aj8 UR (by decide) 40 (by kernel_rfl) (by decide) (fun _ h=>As underlying169 UR h) fun cs b o eb aO aN=>by
  obtain⟨⟨bZ,aj⟩,⟨b3,I⟩⟩:=aN.two eb aO underlying169 0 0 _ rfl rfl rfl (by kernel_rfl) underlying80 _ _ rfl rfl rfl rfl rfl rfl (by decide);obtain⟨cT,U⟩:=aN.xf eb aO underlying169 1 2 _ rfl rfl rfl (by decide);obtain⟨ha,ae⟩:=aN.xf eb aO underlying169 2 3 _ rfl rfl rfl (by decide);obtain⟨h0,aJ⟩:=aN.xf eb aO underlying169 3 4 _ rfl rfl rfl (by decide);exact⟨⟨bZ,b3,cT,ha,h0⟩,aj,I,U,ae,aJ⟩
theorem ZS {v:Value} (h:hd enc w 61 [v]):∃xs,cH 3 fL w v xs:=
 h.pc aj5 UP (by decide) 32 (by kernel_rfl) (by decide) (fun _ h=>As underlying102 UP h) fun cs b o eb aO aN=>by
  obtain⟨bZ,aj⟩:=aN.cF eb aO underlying102 0 0 _ rfl rfl rfl (by decide);obtain⟨⟨b3,I⟩,⟨cT,U⟩⟩:=aN.two eb aO underlying102 1 1 _ rfl rfl rfl Sk underlying57 _ _ rfl rfl rfl rfl rfl rfl (by decide);exact⟨⟨bZ,b3,cT⟩,aj,I,U⟩
theorem ahy {v:Value} (h:hd enc w 62 [v]):∃xs,cH 9 mv w v xs:=
 h.pc aj9 US (by decide) 120 (by kernel_rfl) (by decide) (fun _ h=>As underlying82 US h) fun cs b o eb aO aN=>by
  obtain⟨bZ,aj⟩:=aN.cF eb aO underlying82 0 0 _ rfl rfl rfl (by decide);obtain⟨b3,I⟩:=aN.xf eb aO underlying82 1 1 _ rfl rfl rfl (by decide);obtain⟨cT,U⟩:=aN.xf eb aO underlying82 2 2 _ rfl rfl rfl (by decide);obtain⟨ha,ae⟩:=aN.xf eb aO underlying82 3 3 _ rfl rfl rfl (by decide);obtain⟨⟨h0,aJ⟩,⟨se,bp⟩⟩:=aN.two eb aO underlying82 4 4 _ rfl rfl rfl (by kernel_rfl) underlying80 _ _ rfl rfl rfl rfl rfl rfl (by decide);obtain⟨yZ,eJ⟩:=aN.Cv (R:=kt) eb aO underlying82 5 6 _ rfl rfl rfl (by kernel_rfl) (by decide) (fun v h=>ZU h);obtain⟨IS,kc⟩:=aN.Cv (R:=kt) eb aO underlying82 6 7 _ rfl rfl rfl (by kernel_rfl) (by decide) (fun v h=>ZU h);obtain⟨tc,et⟩:=aN.cF eb aO underlying82 7 8 _ rfl rfl rfl (by decide);exact⟨⟨bZ,b3,cT,ha,h0,se,yZ,IS,tc⟩,aj,I,U,ae,aJ,bp,eJ,kc,et⟩
theorem ahB {v:Value} (h:hd enc w 23 [v]):∃xs,cH 6 kU w v xs:=
 h.pc akc UU (by decide) 72 (by kernel_rfl) (by decide) (fun _ h=>As underlying60 UU h) fun cs b o eb aO aN=>by
  obtain⟨bZ,aj⟩:=aN.cF eb aO underlying60 0 0 _ rfl rfl rfl (by decide);obtain⟨⟨b3,I⟩,⟨cT,U⟩⟩:=aN.two eb aO underlying60 1 1 _ rfl rfl rfl Sk underlying57 _ _ rfl rfl rfl rfl rfl rfl (by decide);obtain⟨⟨ha,ae⟩,⟨h0,aJ⟩⟩:=aN.two eb aO underlying60 2 3 _ rfl rfl rfl Sk underlying57 _ _ rfl rfl rfl rfl rfl rfl (by decide);obtain⟨se,bp⟩:=aN.Cv (R:=cH 5 jZ) eb aO underlying60 3 5 _ rfl rfl rfl (by kernel_rfl) (by decide) (fun v h=>ahx h);exact⟨⟨bZ,b3,cT,ha,h0,se⟩,aj,I,U,ae,aJ,bp⟩
theorem ahv {v:Value} (h:hd enc w 22 [v]):∃xs,cH 2 n_ w v xs:=
 h.pc aj3 UO (by decide) 40 (by kernel_rfl) (by decide) (fun _ h=>As underlying55 UO h) fun cs b o eb aO aN=>by
  obtain⟨bZ,aj⟩:=aN.cF eb aO underlying55 0 0 _ rfl rfl rfl (by decide);obtain⟨b3,I⟩:=aN.Cv (R:=qq) eb aO underlying55 1 1 _ rfl rfl rfl (by kernel_rfl) (by decide) (fun v h=>ahA h);exact⟨⟨bZ,b3⟩,aj,I⟩
theorem ahz {v:Value} (h:hd enc w 24 [v]):∃xs,cH 5 sA w v xs:=
 h.pc aka UT (by decide) 96 (by kernel_rfl) (by decide) (fun _ h=>As underlying64 UT h) fun cs b o eb aO aN=>by
  obtain⟨bZ,aj⟩:=aN.cF eb aO underlying64 0 0 _ rfl rfl rfl (by decide);obtain⟨b3,I⟩:=aN.xf eb aO underlying64 1 1 _ rfl rfl rfl (by decide);obtain⟨cT,U⟩:=aN.Cv (R:=cH 3 fL) eb aO underlying64 2 2 _ rfl rfl rfl (by kernel_rfl) (by decide) (fun v h=>ZS h);obtain⟨ha,ae⟩:=aN.Cv (R:=cH 3 fL) eb aO underlying64 3 3 _ rfl rfl rfl (by kernel_rfl) (by decide) (fun v h=>ZS h);obtain⟨h0,aJ⟩:=aN.Cv (R:=cH 9 mv) eb aO underlying64 4 4 _ rfl rfl rfl (by kernel_rfl) (by decide) (fun v h=>ahy h);exact⟨⟨bZ,b3,cT,ha,h0⟩,aj,I,U,ae,aJ⟩
theorem ZT {base:Nat} {v:Value} {d:DataW H} {p:List MemPlace} (ay:Value.okWide prog w .any base 26 v) (h:DataW.Trod enc prog w 0 (fun _=>true) true 26 v d p) (hw:DK 26 d):∃l,gy w v l:=by
 obtain⟨⟨cs⟩,rfl,n2⟩:=okWide_struct underlying26 ay;rw[show prog.cellsOf 26=3 by kernel_rfl]at n2;have aH:hd enc w 26 cs:=by
  obtain⟨fuel,bO⟩:=h;exact⟨fuel,_,bO,hw⟩
 have nw:cs.length=3:=n2;obtain⟨u0,g0,pa⟩:=aH.vR underlying26 0 0 22 _ rfl rfl rfl (by kernel_rfl) (show 0<cs.length by omega);obtain⟨u1,g1,im⟩:=aH.vR underlying26 1 1 23 _ rfl rfl rfl (by kernel_rfl) (show 1<cs.length by omega);obtain⟨u2,g2,i_⟩:=aH.vR underlying26 2 2 24 _ rfl rfl rfl (by kernel_rfl) (show 2<cs.length by omega);match cs,nw with
 |[b5,aC,aM],_=>
  simp at g0 g1 g2;subst g0 g1 g2;obtain⟨bm,aj⟩:=ahv pa;obtain⟨tb,I⟩:=ahB im;obtain⟨sc,U⟩:=ahz i_;exact⟨⟨bm,tb,sc⟩,_,_,_,rfl,aj,I,U⟩
end
end
end Go.Proofs.YtobpgndkciofhaaGreatDoor
