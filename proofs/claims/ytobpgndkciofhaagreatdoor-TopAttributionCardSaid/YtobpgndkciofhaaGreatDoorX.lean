import Derived.Test.YtobpgndkciofhaaGreatDoorV
import Derived.DeepKeys4
set_option linter.all false
namespace Go.Proofs.YtobpgndkciofhaaGreatDoor
open Go.RowKit Go.Proofs.Tryz
open Go.Lib (hid)
set_option maxRecDepth 100000
set_option maxHeartbeats 16000000
structure h9 where
 d:Int
 ins:List bg
 mem:List (List bg)
def iq:bP:=⟨⟨#[]⟩,0,[],[],[]⟩
def b0 (L:cZ) (s:bP):bP:=if 0≤s.ms then L.sc[s.ms.toNat]?.getD iq else iq
def pC (n:Nat) (rs:List bf) (nb:List Bool) (m:Int):List Bool:=mh (fZ n rs m) (nb.set m.toNat true)
def lT (s m:bP) (d:Int):List Bool:=(hG s.ds.length s.rs d).foldl (pC m.ds.length m.rs) (List.replicate m.ds.length false)
def r2 (tb:List jm) (dt:Int) (eg:List bg):dC:=⟨dt,eg,[],[],[],tb⟩
noncomputable def nC (Lf:gm) (E:dC) (s:bP) (nb:List Bool):List bg×Int:=iL Lf E s.rs nb (o' (gg s.ds.length s.rs)) (List.replicate s.ds.length v0)
noncomputable def kI (Lf:gm) (tb:List jm) (dt:Int) (m:bP) (nb:List Bool):List (List bg)→List (List bg)→List (List bg)×Int
 |[],acc=>(acc,0)
 |eg::r,acc=>if (nC Lf (r2 tb dt eg) m nb).2≠0 then ([],(nC Lf (r2 tb dt eg) m nb).2)else kI Lf tb dt m nb r (acc++[(nC Lf (r2 tb dt eg) m nb).1])
def vk (L:cZ) (m:bP) (c:h9) (ms:List (List bg)):dC:=⟨c.d,c.ins,[],ms,m.ds.map fun f=>⟨f.k,f.e⟩,L.tb⟩
noncomputable def nT (Lf:gm) (L:cZ) (s:bP) (c:h9) (d:Int):bg×Int:=
 if (kI Lf L.tb c.d (b0 L s) (lT s (b0 L s) d) c.mem []).2≠0 then (v0,(kI Lf L.tb c.d (b0 L s) (lT s (b0 L s) d) c.mem []).2)
 else if (nC Lf (vk L (b0 L s) c (kI Lf L.tb c.d (b0 L s) (lT s (b0 L s) d) c.mem []).1) s (k8 s.ds.length s.rs d)).2≠0 then (v0,(nC Lf (vk L (b0 L s) c (kI Lf L.tb c.d (b0 L s) (lT s (b0 L s) d) c.mem []).1) s (k8 s.ds.length s.rs d)).2)
 else ((nC Lf (vk L (b0 L s) c (kI Lf L.tb c.d (b0 L s) (lT s (b0 L s) d) c.mem []).1) s (k8 s.ds.length s.rs d)).1[d.toNat]?.getD v0,0)
theorem m'.symm {A B:List bf} {r s:bf} (h:m' A B r s):m' B A s r:=
 ⟨h.ag.symm,h.bK.symm,h.fa.symm,h.dH.symm,h.dB.symm,h.g.symm,h.v.symm,h.bD.imp (fun g=>⟨g.2,g.1⟩) (fun⟨a,b,p,q,I,U,ae⟩=>⟨b,a,q,p,U,I,ae.symm⟩)⟩
def sy (n:Nat) (A:List bf) (d e:Int):Prop:=e=d∨e∈fZ n A d
def ss (n:Nat) (A B:List bf) (d:Int):Prop:=∀r∈A,sy n A d r.bK→∃s∈B,m' A B r s
theorem Vj {n:Nat} {A B:List bf} {d e f:Int} (h:ss n A B d) (he:sy n A d e) (av:AY n A e f):AY n B e f:=by
 obtain⟨I,r,aH,rfl,U⟩:=av;obtain⟨s,ax,pU⟩:=h r aH he;exact⟨I,s,ax,pU.bK.symm,by rw[←pU.g,←pU.v];exact U⟩
theorem GF {n:Nat} {rs:List bf} {d e:Int} (av:0≤d∧d<n):e∈(gg n rs)[d.toNat]?.getD []↔AY n rs d e:=by
 have:=ad9 (n:=n) (rs:=rs) (d:=d.toNat) (by omega) (e:=e);rwa [Int.toNat_of_nonneg av.1]at this
theorem Mx {n:Nat} {A B:List bf} {d e:Int} (av:0≤d∧d<n) (h:ss n A B d) (he:e∈fZ n A d):e∈fZ n B d:=by
 rw[LB av]at he⊢;induction he with
 |one I=>exact .one ((GF av).2 (Vj h (.inl rfl) ((GF av).1 I)))
 |step I U bH=>
  have aH:=I.ES (BG n A);exact .step bH ((GF aH).2 (Vj h (.inr ((LB av).2 I)) ((GF aH).1 U)))
theorem aa7 {n:Nat} {A B:List bf} {d:Int} (av:0≤d∧d<n) (h:ss n A B d) (dp:ss n B A d) (e:Int):e∈fZ n A d↔e∈fZ n B d:=⟨Mx av h,Mx av dp⟩
theorem Zp {n:Nat} {A B:List bf} {d:Int} (av:0≤d∧d<n) (h:ss n A B d) {e:Int} (he:e∈hG n A d):e∈hG n B d:=by
 rw[Re av]at he⊢;obtain⟨r,aH,I,U,ae⟩:=he;obtain⟨s,ax,pU⟩:=h r aH U;exact⟨s,ax,by rw[←pU.bK];exact I,by rw[←pU.bK];exact U.imp id (Mx av h),by rw[←pU.g,←pU.v];exact ae⟩
theorem Zm {n:Nat} {a b:List Bool} (aZ:a.length=n) (J:b.length=n) (h:∀f:Int,0≤f→(dG a f=true↔dG b f=true)):a=b:=by
 apply List.ext_getElem (aZ.trans J.symm);intro i I U;have:=h (i:Int) (by omega);unfold dG at this;rw[Int.toNat_natCast,a8 I,a8 U,Option.getD_some,Option.getD_some]at this;exact Bool.eq_iff_iff.2 this
theorem akt {n:Nat} {A B:List bf} {d:Int} (av:0≤d∧d<n) (h:ss n A B d) (dp:ss n B A d):k8 n A d=k8 n B d:=
 Zm (IN ..) (IN ..) fun f bO=>by rw[Ml av bO,Ml av bO,aa7 av h dp]
theorem Un (n:Nat) (rs:List bf) (nb:List Bool) (m:Int):(pC n rs nb m).length=nb.length:=by unfold pC;rw[Lz,List.length_set]
theorem O' (n:Nat) (rs:List bf):∀(l:List Int) (nb:List Bool),(l.foldl (pC n rs) nb).length=nb.length
 |[],_=>rfl
 |m::l,nb=>by rw[List.foldl_cons,O' n rs l,Un]
theorem aaI {n:Nat} {rs:List bf}:∀(l:List Int) (nb:List Bool),nb.length=n→gU n l→∀f:Int,0≤f→(dG (l.foldl (pC n rs) nb) f=true↔dG nb f=true∨∃m∈l,sy n rs m f)
 |[],nb,_,_,f,_=>by simp
 |m::l,nb,aq,aw,f,bO=>by
  have hm:=aw m (by simp);rw[List.foldl_cons,aaI l _ (by rw[Un];exact aq) (fun e he=>aw e (by simp[he])) f bO];unfold pC;rw[aaJ _ _ (by rw[List.length_set,aq];exact CQ n rs m) f bO,Fj (by omega) bO];simp only[List.mem_cons,exists_eq_or_imp,sy];constructor
  ·rintro ((h|h)|h)
   ·rcases h with h|h
    ·exact .inl h
    ·exact .inr (.inl (.inl h))
   ·exact .inr (.inl (.inr h))
   ·exact .inr (.inr h)
  ·rintro (h|(h|h)|h)
   ·exact .inl (.inl (.inl h))
   ·exact .inl (.inl (.inr h))
   ·exact .inl (.inr h)
   ·exact .inr h
theorem LK (s m:bP) (d:Int):(lT s m d).length=m.ds.length:=by unfold lT;rw[O',List.length_replicate]
theorem R5 {s m:bP} {d:Int} (aw:gU m.ds.length (hG s.ds.length s.rs d)) {f:Int} (bO:0≤f):dG (lT s m d) f=true↔∃e∈hG s.ds.length s.rs d,sy m.ds.length m.rs e f:=by
 unfold lT;rw[aaI _ _ (List.length_replicate ..) aw f bO,Mk];simp
structure rr (s:bP):Prop where
 rs:DD s.rs
 ac:∀d:Int,¬nN (gg s.ds.length s.rs) d d
theorem rr.top {s:bP} (h:rr s):N6 s.ds.length s.rs (o' (gg s.ds.length s.rs))∧∀u:Int,0≤u→u<s.ds.length→u∈o' (gg s.ds.length s.rs):=by
 obtain⟨I,U,ae,aJ⟩:=Ry (BH s.ds.length s.rs) (fun l aq=>zP aq) h.ac;refine⟨⟨U,I,fun p t d aL e he=>aJ p t d aL e ?_⟩,ae⟩;exact (GF (U d (by rw[aL];simp))).2 he
theorem aau {Lf:gm} {E:dC} {a b:bP} {nb:List Bool} (aZ:rr a) (J:rr b) (aq:b.ds.length=a.ds.length) (hC:∀d:Int,0≤d→d<a.ds.length→ml nb d=true→kM a.rs b.rs d) (aj:(nC Lf E a nb).2=0):nC Lf E b nb=nC Lf E a nb:=by
 obtain⟨V,c,dZ⟩:∃V c,nC Lf E a nb=(V,c):=⟨_,_,rfl⟩;rw[dZ]at aj⊢;simp only at aj;subst aj;obtain⟨an5,anC⟩:=aZ.top;obtain⟨tb,rv⟩:=J.top;have bj:=ai3 an5 anC dZ;unfold nC;rw[aq]at tb rv⊢;exact aix tb rv (bj.ad2 hC)
theorem Zt {Lf:gm} {tb:List jm} {dt:Int} {a b:bP} {nb:List Bool} (aZ:rr a) (J:rr b) (aq:b.ds.length=a.ds.length) (hC:∀d:Int,0≤d→d<a.ds.length→ml nb d=true→kM a.rs b.rs d):
  ∀(l acc:List (List bg)),(kI Lf tb dt a nb l acc).2=0→kI Lf tb dt b nb l acc=kI Lf tb dt a nb l acc
 |[],_,_=>rfl
 |eg::r,acc,aj=>by
  unfold kI at aj⊢;by_cases ah:(nC Lf (r2 tb dt eg) a nb).2=0
  ·have he:=aau aZ J aq hC ah;rw[if_neg (fun h=>h ah)]at aj;rw[he,if_neg (fun h=>h ah),if_neg (fun h=>h ah)];exact Zt aZ J aq hC r _ aj
  ·rw[if_pos ah]at aj;exact absurd aj ah
theorem Vf {A B:List bf} {d:Int} (aZ:DD A) (J:DD B) (h:∀r∈A,r.bK=d→∃s∈B,m' A B r s) (dp:∀r∈B,r.bK=d→∃s∈A,m' B A r s):kM A B d:=by
 refine⟨aZ,J,fun i r aE av=> ?_,fun j s aB av=> ?_⟩
 ·obtain⟨s,ax,pU⟩:=h r (List.mem_of_getElem? aE) av;obtain⟨j,aB⟩:=List.getElem?_of_mem ax;exact⟨j,s,aB,pU⟩
 ·obtain⟨r,aH,pU⟩:=dp s (List.mem_of_getElem? aB) av;obtain⟨i,aE⟩:=List.getElem?_of_mem aH;exact⟨i,r,aE,pU.symm⟩
structure zE (A B:cZ) (a b:bP) (d:Int):Prop where
 tb:A.tb=B.tb
 rD:0≤d∧d<a.ds.length
 ds:b.ds.length=a.ds.length
 md:(b0 B b).ds=(b0 A a).ds
 Ru:rr a
 Ip:rr b
 H':rr (b0 A a)
 cI:rr (b0 B b)
 s7:gU (b0 A a).ds.length (hG a.ds.length a.rs d)
 fz:gU (b0 B b).ds.length (hG b.ds.length b.rs d)
 lk:ss a.ds.length a.rs b.rs d
 KV:ss a.ds.length b.rs a.rs d
 Zi:∀e∈hG a.ds.length a.rs d,ss (b0 A a).ds.length (b0 A a).rs (b0 B b).rs e
 Zo:∀e∈hG a.ds.length b.rs d,ss (b0 A a).ds.length (b0 B b).rs (b0 A a).rs e
theorem zE.symm {A B:cZ} {a b:bP} {d:Int} (h:zE A B a b d):zE B A b a d:=by
 have hm:(b0 B b).ds.length=(b0 A a).ds.length:=by rw[h.md]
 exact⟨h.tb.symm,by rw[h.ds];exact h.rD,h.ds.symm,h.md.symm,h.Ip,h.Ru,h.cI,h.H',h.fz,h.s7,by rw[h.ds];exact h.KV,by rw[h.ds];exact h.lk,by rw[h.ds,hm];exact h.Zo,by rw[h.ds,hm];exact h.Zi⟩
theorem zE.VA {A B:cZ} {a b:bP} {d:Int} (h:zE A B a b d) {Lf:gm} {c:h9} (aj:(nT Lf A a c d).2=0):nT Lf B b c d=nT Lf A a c d:=by
 have hm:(b0 B b).ds.length=(b0 A a).ds.length:=by rw[h.md]
 have qK:∀e,e∈hG b.ds.length b.rs d↔e∈hG a.ds.length a.rs d:=fun e=>by
  rw[h.ds];exact⟨Zp h.rD h.KV,Zp h.rD h.lk⟩
 have XI:∀e∈hG a.ds.length a.rs d,ss (b0 A a).ds.length (b0 A a).rs (b0 B b).rs e∧ss (b0 A a).ds.length (b0 B b).rs (b0 A a).rs e:=fun e he=>⟨h.Zi e he,h.Zo e (by rw[←h.ds];exact (qK e).2 he)⟩;have Qp:∀e∈hG a.ds.length a.rs d,∀f,sy (b0 A a).ds.length (b0 B b).rs e f↔sy (b0 A a).ds.length (b0 A a).rs e f:=fun e he f=>by
  obtain⟨I,U⟩:=XI e he;unfold sy;rw[aa7 (h.s7 e he) I U]
 have o1:lT b (b0 B b) d=lT a (b0 A a) d:=by
  refine Zm (LK ..) ((LK ..).trans hm.symm) fun f bO=> ?_;rw[R5 h.fz bO,R5 h.s7 bO,hm];constructor
  ·rintro⟨e,I,U⟩;have zS:=(qK e).1 I;exact⟨e,zS,(Qp e zS f).1 U⟩
  ·rintro⟨e,I,U⟩;exact⟨e,(qK e).2 I,(Qp e I f).2 U⟩
 have HR:k8 b.ds.length b.rs d=k8 a.ds.length a.rs d:=by
  rw[h.ds];exact akt h.rD h.KV h.lk
 have hCm:∀x:Int,0≤x→x<(b0 A a).ds.length→ml (lT a (b0 A a) d) x=true→kM (b0 A a).rs (b0 B b).rs x:=fun x I _ ae=>by
  obtain⟨e,he,aH⟩:=(R5 h.s7 I).1 ae;obtain⟨g1,g2⟩:=XI e he;exact Vf h.H'.rs h.cI.rs (fun r ig av=>g1 r ig (by rw[av];exact aH)) (fun r ig av=>g2 r ig (by rw[av];exact (Qp e he x).2 aH))
 have hCo:∀x:Int,0≤x→x<a.ds.length→ml (k8 a.ds.length a.rs d) x=true→kM a.rs b.rs x:=fun x I _ ae=>by
  have aH:=(Ml h.rD I).1 ae;exact Vf h.Ru.rs h.Ip.rs (fun r ig av=>h.lk r ig (by rw[av];exact aH)) (fun r ig av=>h.KV r ig (by rw[av];exact aH.imp id (Mx h.rD h.lk)))
 have hmF:=Zt (Lf:=Lf) (tb:=A.tb) (dt:=c.d) h.H' h.cI hm hCm c.mem [];unfold nT at aj⊢;rw[o1,HR,←h.tb];have aX:∀M,vk B (b0 B b) c M=vk A (b0 A a) c M:=fun M=>by unfold vk;rw[h.md,h.tb]
 by_cases b5:(kI Lf A.tb c.d (b0 A a) (lT a (b0 A a) d) c.mem []).2=0
 ·have mH:¬(kI Lf A.tb c.d (b0 A a) (lT a (b0 A a) d) c.mem []).2≠0:=fun h=>h b5;rw[hmF b5];rw[if_neg mH]at aj⊢;rw[if_neg mH,aX];generalize vk A (b0 A a) c (kI Lf A.tb c.d (b0 A a) (lT a (b0 A a) d) c.mem []).1=E at*;by_cases aC:(nC Lf E a (k8 a.ds.length a.rs d)).2=0
  ·rw[aau h.Ru h.Ip h.ds hCo aC]
  ·rw[if_pos aC]at aj;exact absurd aj aC
 ·rw[if_pos b5]at aj;exact absurd aj b5
theorem O6 {Lf:gm} {L:cZ} {s:bP} {c:h9} {d:Int} (h:(nT Lf L s c d).2≠0):(nT Lf L s c d).1=v0:=by
 unfold nT at h⊢;split
 ·rfl
 ·split
  ·rfl
  ·rename_i I U;rw[if_neg I,if_neg U]at h;exact absurd rfl h
theorem zE.both {A B:cZ} {a b:bP} {d:Int} (h:zE A B a b d) {Lf:gm} {c:h9}:((nT Lf A a c d).2=0↔(nT Lf B b c d).2=0)∧(nT Lf A a c d).1=(nT Lf B b c d).1:=by
 by_cases aj:(nT Lf A a c d).2=0
 ·rw[h.VA aj];exact⟨Iff.rfl,rfl⟩
 ·have I:(nT Lf B b c d).2≠0:=fun e=>aj (by rw[h.symm.VA e];exact e);exact⟨⟨fun e=>absurd e aj,fun e=>absurd e I⟩,by rw[O6 aj,O6 I]⟩
theorem Rw {w:World} {B n ft:Nat} {qo:Option Addr} {l:List Int} (h:cn w B (.slice qo n ft) l) {i:Nat} {d:Int} (av:l[i]?=some d):∃g,qo=some ⟨g,0,none⟩∧B≤g∧g<w.heap.size∧w.cell? ⟨g,i,none⟩=some (.int .i64 d):=by
 obtain⟨A,cap,he,U⟩:=h.row;simp only[Value.slice.injEq]at he;obtain⟨rfl,-,rfl⟩:=he;obtain⟨g,ae,eJ,aJ,bp⟩:=U (by have:=(b8 av).1;omega);exact⟨g,ae,eJ,aJ,bp _ _ av⟩
theorem Two.fD {w w':World} {r g:Nat} {t:TypeId} {cs:Array Value} (h:Two w w' none r) (aU:ao w g t cs) (bQ:g≠r):ao w' g t cs:=(h.block g aU.lt bQ (by simp)).trans aU
theorem Rx {w:World} {B n c:Nat} {A:Option Addr} {l:List Int} (h:cn w B (.slice A n c) l):n≤9223372036854775807:=by
 rcases h.2 with⟨I,U⟩|⟨g,cap,cur,ay,-,-,I,U,-⟩
 ·cases I;omega
 ·cases ay;exact Nat.le_trans I U
theorem Zl (l:List Int) (s:List Bool) {i:Nat} {d:Int} (h:l[i]?=some d):mh (l.take (i+1)) s=(mh (l.take i) s).set d.toNat true:=by
 rw[List.take_add_one,h];simp[mh]
theorem acb (w ws:World) (P M:Nat) (b5 aC aM a1 bN rA:Value) (bo b6 bA:Value) (m:bP) (cI:List Bool) (d:Int) (ab:Kept w ws) (qG:ao ws P 130 #[b5,aC,aM,a1,bN,m.ag,m.ms,bo,b6,bA,rA,.slice (some ⟨M,0,none⟩) cI.length cI.length])
  (bj:iH w (.agg #[m.ag,m.ms,bo,b6,bA]) m) (br:ao ws M 4 (iw cI)) (av:0≤d∧d<cI.length) (aq:cI.length=m.ds.length) (G':P≠M) (Lo:w.heap.size≤M) (aw:pB m.rs) (aA:m.ds.length≤1000):
  Calls prog 36 #[.pointer (some ⟨P,0,none⟩),d] ws fun e w'=>e= .returned (.tuple #[])∧Two ws w' none M∧ao w' M 4 (iw (pC m.ds.length m.rs cI d)):=by
 have ch:=hid (fun (w1:World) (h:Kept w w1)=>IH (.agg #[m.ag,m.ms,bo,b6,bA]) m d w1 (bj.kept h) aw aA);unfold p6 at ch;obtain⟨_,_,_,he,bC,b',sK⟩:=bj;simp only[Value.agg.injEq,Array.mk.injEq,List.cons.injEq,true_and,and_true]at he;obtain⟨rfl,rfl,rfl⟩:=he;obtain⟨gN,gS,rfl,-⟩:=bC;obtain⟨fo,fS,rfl,-⟩:=b';obtain⟨eC,rc,rfl,-⟩:=sK;obtain⟨k,rfl⟩:=Int.eq_ofNat_of_zero_le av.1;have aa:k<cI.length:=by omega
 have wz:=hid (CQ m.ds.length m.rs k);have I4:=hid (show pC m.ds.length m.rs cI k=mh (fZ m.ds.length m.rs k) (cI.set k true) by unfold pC;rw[Int.toNat_natCast]);generalize pC m.ds.length m.rs cI k=gJ at*;generalize fZ m.ds.length m.rs k=T at*;rw[←aq]at wz;generalize m.ds.length=cS at*;generalize m.ins.length=b1 at*;generalize m.rs.length=c' at*;have j9:cI.length≤1000:=by omega
 generalize bM:cI.length=n at*;have bk:=hid bM;obtain⟨p,pl⟩:=qG.p;have mJ:=br.lt;have Ie:=br.frozen k;obtain⟨z0,fy⟩:∃z0,cI[k]?=some z0:=⟨_,a8 (by omega)⟩;have n4:=(br.cell k).trans (qu fy);have jI:(k:Int)<n:=by omega
 have rm:=br.aP k (.bool true);rw[x1]at rm;have uY:=qG.far (p:=⟨M,k,none⟩) G' (.bool true);have nP:=(Two.refl ws none M).aP k (.bool true);have bB:=ab.setCell (p:=⟨M,k,none⟩) Lo (.bool true);clear qG br ab av bM;go_enter func36,ntmps36
 go_upto_region 1 with fail
 clear p pl mJ Ie n4;generalize ws.setCell ⟨M,k,none⟩ (.bool true)=ct at*;obtain⟨p,pl⟩:=uY.p;go_upto_region 2 with (go_at_call 34;refine (ch.out _ bB).mono ?_;rintro e w2 ⟨u,rfl,aL,a'⟩;obtain⟨j1,hj,rfl⟩:=il aL;have dM:=hid aL;clear aL)
 have hMl:M<ct.heap.size:=rm.lt;have mw:=hid (nP.trans (Two.iZ a') (.inl rfl));have M2:=hid (rm.kept a');have NY:=hid (uY.kept a');clear p pl uY rm nP bB a' ch;generalize Hd:T.length=q at*;have bz:=hid Hd;clear Hd;go_loopw [19] (fun y wr=>∃i:Nat,y= .int .i64 i∧i≤q∧Two ws wr none M∧ao wr P 130 #[b5,aC,aM,a1,bN,m.ag,m.ms,.slice gN b1 gS,.slice fo cS fS,.slice eC c' rc,rA,.slice (some ⟨M,0,none⟩) n n]∧ao wr M 4 (iw (mh (T.take i) (cI.set k true)))∧cn wr ct.heap.size (.slice j1 q hj) T) (fun y _=>q-(intOf y).toNat)
 case atStart=>exact⟨0,rfl,Nat.zero_le _,mw.out,NY.out,M2.out,dM.out⟩
 case round=>
  obtain⟨i,rfl,hiq,bl,dJ,br,da⟩:=hrel;by_cases aD:i<q
  ·have ai:T[i]?=some (T[i]'(by rw[bz.out];exact aD)):=a8 _;have aH:=wz.out _ (List.getElem_mem (by rw[bz.out];exact aD:i<T.length));have iA:=Zl T (cI.set k true) ai;generalize T[i]'(by rw[bz.out];exact aD)=e at*;obtain⟨g,rfl,e2,dT,l9⟩:=Rw da ai;obtain⟨x,rfl⟩:=Int.eq_ofNat_of_zero_le aH.1;have fj:(x:Int)<n:=aH.2;have gR:(mh (T.take i) (cI.set k true)).length=n:=by rw[Lz,List.length_set];exact bk.out
   rw[Int.toNat_natCast]at iA;have ga:=hid iA;have c6:(i:Int)<q:=by omega
   have ns:(i:Int)+1≤9223372036854775807:=by have:=Rx da;omega
   obtain⟨p,pl⟩:=dJ.p;have mJ:=br.lt;have Ie:=br.frozen x;obtain⟨z0,fy⟩:∃z0,(mh (T.take i) (cI.set k true))[x]?=some z0:=⟨_,a8 (by omega)⟩;have n4:=(br.cell x).trans (qu fy);have Dw:=br.aP x (.bool true);rw[x1,←iA]at Dw;have Gf:=dJ.far (p:=⟨M,x,none⟩) G' (.bool true);have oj:=bl.aP x (.bool true);have Ge:=da.vY (p:=⟨M,x,none⟩) (show Value.ownBlock (.slice (some ⟨g,0,none⟩) q hj)≠some M from fun h=>by have:=s6 da h;omega) (.bool true);have aV:=hid (And.intro oj (And.intro Gf (And.intro Dw Ge)));clear dJ br da bl Dw Gf oj Ge iA ai aH gR;go_wp2_with fail
   go_roundw
   case rel=>exact⟨i+1,by go_num,aD,aV.out.1,aV.out.2.1,aV.out.2.2.1,aV.out.2.2.2⟩
   case measure=>simp[intOf];omega
  ·obtain rfl:i=q:=by omega
   have c6:¬((i:Int)<i):=by omega
   have aV:=hid (And.intro bl br);clear bl br dJ da;go_wp2_with fail
   go_end0
   have:=aV.out.2;rw[List.take_of_length_le (by rw[bz.out];omega),←I4.out]at this;exact⟨rfl,aV.out.1,this⟩
def Rn (P D M:Nat) (cs:Array Value) (nb cI:List Bool) (w:World) (e:Ending) (w':World):Prop:=e= .returned (.tuple #[])∧Kept w w'∧ao w' P 130 cs∧ao w' D 4 (iw nb)∧(0<cI.length→ao w' M 4 (iw cI))
theorem ab9 (w ws:World) (P D M:Nat) (bo b6 bA hX hQ hz:Value) (fR:Option Addr) (s m:bP) (nb cI:List Bool) (d:Int) (ab:Kept w ws)
  (qG:ao ws P 130 #[s.ag,s.ms,bo,b6,bA,m.ag,m.ms,hX,hQ,hz,.slice (some ⟨D,0,none⟩) nb.length nb.length,.slice fR cI.length cI.length])
  (bj:iH w (.agg #[s.ag,s.ms,bo,b6,bA]) s) (zZ:iH w (.agg #[m.ag,m.ms,hX,hQ,hz]) m) (b':ao ws D 4 (iw nb)) (br:0<cI.length→fR=some ⟨M,0,none⟩∧ao ws M 4 (iw cI))
  (av:0≤d∧d<nb.length) (aq:nb.length=s.ds.length) (lO:cI.length=m.ds.length) (yi:P≠D) (G':P≠M) (Po:D≠M) (Yu:w.heap.size≤D) (Lo:w.heap.size≤M) (aw:pB s.rs) (aA:s.ds.length≤1000) (PC:pB m.rs) (XJ:m.ds.length≤1000)
  (qK:gU m.ds.length (hG s.ds.length s.rs d)):
  Calls prog 22 #[.pointer (some ⟨P,0,none⟩),d] ws (Rn P D M #[s.ag,s.ms,bo,b6,bA,m.ag,m.ms,hX,hQ,hz,.slice (some ⟨D,0,none⟩) nb.length nb.length,.slice fR cI.length cI.length]
   (mh (fZ s.ds.length s.rs d) (nb.set d.toNat true)) ((hG s.ds.length s.rs d).foldl (pC m.ds.length m.rs) cI) w):=by
 have ch:=hid (fun (w1:World) (h:Kept w w1)=>IH (.agg #[s.ag,s.ms,bo,b6,bA]) s d w1 (bj.kept h) aw aA);have tu:=hid (fun (w1:World) (h:Kept w w1)=>Zq (.agg #[s.ag,s.ms,bo,b6,bA]) s d w1 (bj.kept h) aw aA);have HAM:=hid (fun (ws:World) (Q_:List Bool) (e:Int) (ab:Kept w ws) (mE:Q_.length=cI.length) (qG:ao ws P 130 #[s.ag,s.ms,bo,b6,bA,m.ag,m.ms,hX,hQ,hz,.slice (some ⟨D,0,none⟩) nb.length nb.length,.slice (some ⟨M,0,none⟩) cI.length cI.length])
  (br:ao ws M 4 (iw Q_)) (he:0≤e∧e<cI.length)=>acb w ws P M _ _ _ _ _ _ hX hQ hz m Q_ e ab (by rw[mE];exact qG) zZ br (by rw[mE];exact he) (mE.trans lO) G' Lo PC XJ)
 unfold p6 at ch tu;obtain⟨_,_,_,he,bC,KF,sK⟩:=bj;simp only[Value.agg.injEq,Array.mk.injEq,List.cons.injEq,true_and,and_true]at he;obtain⟨rfl,rfl,rfl⟩:=he;obtain⟨gN,gS,rfl,-⟩:=bC;obtain⟨fo,fS,rfl,-⟩:=KF;obtain⟨eC,rc,rfl,-⟩:=sK;obtain⟨_,_,_,he,bC,KF,sK⟩:=zZ;simp only[Value.agg.injEq,Array.mk.injEq,List.cons.injEq,true_and,and_true]at he;obtain⟨rfl,rfl,rfl⟩:=he;obtain⟨T1,YM,rfl,-⟩:=bC;obtain⟨SK,Vi,rfl,-⟩:=KF;obtain⟨N1,RM,rfl,-⟩:=sK;obtain⟨k,rfl⟩:=Int.eq_ofNat_of_zero_le av.1;have aa:k<nb.length:=by omega
 have wz:=hid (CQ s.ds.length s.rs k);rw[←lO]at qK;rw[Int.toNat_natCast];have C':=hid qK;have I9:=hid (fun i=>O' m.ds.length m.rs ((hG s.ds.length s.rs k).take i) cI);have HFS:=hid (fun i e (h:(hG s.ds.length s.rs k)[i]?=some e)=>(show ((hG s.ds.length s.rs k).take (i+1)).foldl (pC m.ds.length m.rs) cI=pC m.ds.length m.rs (((hG s.ds.length s.rs k).take i).foldl (pC m.ds.length m.rs) cI) e by rw[List.take_add_one,h];simp));generalize fZ s.ds.length s.rs k=T at*;rw[←aq]at wz;generalize hG s.ds.length s.rs k=bG at*;generalize pC m.ds.length m.rs=F at*;generalize s.ds.length=cS at*;generalize s.ins.length=b1 at*;generalize s.rs.length=c' at*;generalize m.ds.length=Zz at*;generalize m.ins.length=ZA at*;generalize m.rs.length=ZB at*;generalize s.ag=IC at*;generalize m.ag=Ii at*;generalize s.ms=IB at*;generalize m.ms=Ih at*;obtain⟨cs,hv⟩:∃cs,cs=(#[IC,IB,.slice gN b1 gS,.slice fo cS fS,.slice eC c' rc,Ii,Ih,.slice T1 ZA YM,.slice SK Zz Vi,.slice N1 ZB RM,.slice (some ⟨D,0,none⟩) nb.length nb.length,.slice fR cI.length cI.length]:Array Value):=⟨_,rfl⟩;rw[←hv]at qG⊢;have HCS:=hid hv;have bI:Hid (∀(x:World),ao x P 130 cs→∀i,x.cell? ⟨P,i,none⟩=(#[IC,IB,.slice gN b1 gS,.slice fo cS fS,.slice eC c' rc,Ii,Ih,.slice T1 ZA YM,.slice SK Zz Vi,.slice N1 ZB RM,.slice (some ⟨D,0,none⟩) nb.length nb.length,.slice fR cI.length cI.length]:Array Value)[i]?):=hid fun x h i=>by rw[←hv];exact h.cell i
 have j9:nb.length≤1000:=by omega
 have ke:cI.length≤1000:=by omega
 generalize bM:nb.length=n at*;have bk:=hid bM;have HPO:=hid (fun (h:0<cI.length)=>(br h).1);have tt:Hid (0<cI.length→ao ws M 4 (iw cI)):=hid (fun (h:0<cI.length)=>(br h).2);generalize Wu:cI.length=dQ at*;have l1:=hid Wu;have p:=bI.out ws qG;have pl:=qG.lt;have mJ:=b'.lt;have Ie:=b'.frozen k;obtain⟨z0,fy⟩:∃z0,nb[k]?=some z0:=⟨_,a8 (by omega)⟩;have n4:=(b'.cell k).trans (qu fy);have jI:(k:Int)<n:=by omega
 have cr:=b'.aP k (.bool true);rw[x1]at cr;have uY:=qG.far (p:=⟨D,k,none⟩) yi (.bool true);have rm:=fun h=>(tt.out h).far (p:=⟨D,k,none⟩) Po.symm (.bool true);have bB:=ab.setCell (p:=⟨D,k,none⟩) Yu (.bool true);clear qG br b' ab av bM Wu hv qK;go_enter func22,ntmps22
 go_upto_region 1 with fail
 clear p pl mJ Ie n4;generalize ws.setCell ⟨D,k,none⟩ (.bool true)=ct at*;have p:=bI.out ct uY;have pl:=uY.lt;go_upto_region 2 with (go_at_call 34;refine (ch.out _ bB).mono ?_;rintro e w2 ⟨u,rfl,aL,a'⟩;obtain⟨j1,hj,rfl⟩:=il aL;have dM:=hid aL;clear aL)
 have KG:D<ct.heap.size:=cr.lt;have zp:Hid (w.heap.size≤ct.heap.size):=hid bB.size;have bR:=hid (bB.trans a');have c2:=hid (cr.kept a');have NY:=hid (uY.kept a');have M2:=hid (fun h=>(rm h).kept a');clear p pl uY rm cr bB a' ch;generalize Hd:T.length=q at*;have bz:=hid Hd;clear Hd;go_loopw [21] (fun y wr=>∃i:Nat,y= .int .i64 i∧i≤q∧Kept w wr∧ao wr P 130 cs∧ao wr D 4 (iw (mh (T.take i) (nb.set k true)))∧(0<dQ→ao wr M 4 (iw cI))∧cn wr ct.heap.size (.slice j1 q hj) T) (fun y _=>q-(intOf y).toNat)
 case atStart=>exact⟨0,rfl,Nat.zero_le _,bR.out,NY.out,c2.out,M2.out,dM.out⟩
 case round=>
  obtain⟨i,rfl,hiq,bl,dJ,b',zX,da⟩:=hrel;have qg:=hid zX;clear zX;by_cases aD:i<q
  ·have ai:T[i]?=some (T[i]'(by rw[bz.out];exact aD)):=a8 _;have aH:=wz.out _ (List.getElem_mem (by rw[bz.out];exact aD:i<T.length));have iA:=Zl T (nb.set k true) ai;generalize T[i]'(by rw[bz.out];exact aD)=e at*;obtain⟨g,rfl,e2,dT,l9⟩:=Rw da ai;obtain⟨x,rfl⟩:=Int.eq_ofNat_of_zero_le aH.1;have fj:(x:Int)<n:=aH.2;have gR:(mh (T.take i) (nb.set k true)).length=n:=by rw[Lz,List.length_set];exact bk.out
   rw[Int.toNat_natCast]at iA;have c6:(i:Int)<q:=by omega
   have ns:(i:Int)+1≤9223372036854775807:=by have:=Rx da;omega
   have p:=bI.out wr dJ;have pl:=dJ.lt;have mJ:=b'.lt;have Ie:=b'.frozen x;obtain⟨z0,fy⟩:∃z0,(mh (T.take i) (nb.set k true))[x]?=some z0:=⟨_,a8 (by omega)⟩;have n4:=(b'.cell x).trans (qu fy);have fu:=b'.aP x (.bool true);rw[x1,←iA]at fu;have Gf:=dJ.far (p:=⟨D,x,none⟩) yi (.bool true);have oj:=bl.setCell (p:=⟨D,x,none⟩) Yu (.bool true);have Dw:=fun h=>(qg.out h).far (p:=⟨D,x,none⟩) Po.symm (.bool true);have Ge:=da.vY (p:=⟨D,x,none⟩) (show Value.ownBlock (.slice (some ⟨g,0,none⟩) q hj)≠some D from fun h=>by have:=s6 da h;omega) (.bool true);have aV:=hid (And.intro oj (And.intro Gf (And.intro fu (And.intro Dw Ge))));clear dJ b' da bl fu Gf oj Ge Dw iA ai aH gR;go_wp2_with fail
   go_roundw
   case rel=>exact⟨i+1,by go_num,aD,aV.out.1,aV.out.2.1,aV.out.2.2.1,aV.out.2.2.2.1,aV.out.2.2.2.2⟩
   case measure=>simp[intOf];omega
  ·obtain rfl:i=q:=by omega
   have c6:¬((i:Int)<i):=by omega
   rw[List.take_of_length_le (by rw[bz.out];omega)]at b';have aV:=hid (And.intro bl (And.intro dJ b'));have p:=bI.out wr dJ;have pl:=dJ.lt;clear bl b' dJ da;go_upto_region 7 with (go_at_call 35;refine (tu.out _ aV.out.1).mono ?_;rintro e cf ⟨v,rfl,aL,cQ⟩;obtain⟨iS,gx,rfl⟩:=il aL;have eU:=hid aL;clear aL)
   have uS:=hid (aV.out.1.trans cQ);have ant:=hid (aV.out.2.1.kept cQ);have ank:=hid (aV.out.2.2.kept cQ);have hn:=hid (fun h=>(qg.out h).kept cQ);have Da:=hid (fun h=>(qg.out h).lt);clear p pl aV qg tu cQ;generalize wr.heap.size=fB at eU Da;generalize mh T (nb.set k true)=JB at*;generalize WG:bG.length=r at*;have xN:=hid WG;clear WG;go_loopw [39] (fun y wr=>∃j:Nat,y= .int .i64 j∧j≤r∧Kept w wr∧ao wr P 130 cs∧ao wr D 4 (iw JB)∧(0<dQ→ao wr M 4 (iw ((bG.take j).foldl F cI)))∧cn wr fB (.slice iS r gx) bG) (fun y _=>r-(intOf y).toNat)
   case atStart=>exact⟨0,rfl,Nat.zero_le _,uS.out,ant.out,ank.out,hn.out,eU.out⟩
   case round=>
    obtain⟨j,rfl,hjr,bl,dJ,b',zX,da⟩:=hrel;by_cases aD:j<r
    ·have ai:bG[j]?=some (bG[j]'(by rw[xN.out];exact aD)):=a8 _;have aH:=C'.out _ (List.getElem_mem (by rw[xN.out];exact aD:j<bG.length));have Hr:=HFS.out j _ ai;generalize bG[j]'(by rw[xN.out];exact aD)=e at*;obtain⟨g,rfl,e2,dT,l9⟩:=Rw da ai;have lQ:0<dQ:=by have:=aH.1;have:=aH.2;omega
     have oy:((bG.take j).foldl F cI).length=dQ:=I9.out j;have HF:=HPO.out lQ;have S_:=hid (HAM.out wr ((bG.take j).foldl F cI) e bl oy (by rw[←HF,←HCS.out];exact dJ) (zX lQ) aH);rw[←Hr]at S_;have cg:=hid (And.intro bl (And.intro dJ (And.intro b' da)));have HMQ:=hid (Da.out lQ);have hE:(j:Int)<r:=by omega
     have ns:(j:Int)+1≤9223372036854775807:=by have:=Rx da;omega
     clear bl dJ b' da zX ai aH Hr oy HF lQ;go_wp2_with (go_at_call 36;refine S_.out.mono ?_;rintro sH dV ⟨rfl,t6,m6⟩;have Dh:=hid t6;have HM6:=hid m6;clear t6 m6)
     go_roundw
     case rel=>exact⟨j+1,by go_num,aD,Dh.out.kept cg.out.1 Lo,Dh.out.fD cg.out.2.1 G',Dh.out.fD cg.out.2.2.1 Po,fun _=>HM6.out,cn.two cg.out.2.2.2 Dh.out (fun _ _=>by simp) (fun h=>by have:=s6 cg.out.2.2.2 h;have:=HMQ.out;omega)⟩
     case measure=>simp[intOf];omega
    ·obtain rfl:j=r:=by omega
     have hE:¬((j:Int)<j):=by omega
     rw[List.take_of_length_le (by rw[xN.out];omega)]at zX;have aV:=hid (show Rn P D M cs JB (bG.foldl F cI) w (.returned (.tuple #[])) wr from⟨rfl,bl,dJ,b',fun h=>zX (by have:=I9.out bG.length;rw[List.take_length]at this;rw[←this];exact h)⟩);clear bl dJ b' da zX;go_wp2_with fail
     go_end0
     exact aV.out
structure jV where
 sc:ByteArray
 dF:ByteArray
 k:Int
def eP:ByteArray:=⟨#[]⟩
def oG (l:List bP) (ag:ByteArray):Option bP:=l.find? fun s=>decide (s.ag=ag)
def nB (l:List bf) (ag:ByteArray):Option Nat:=l.findIdx? fun r=>decide (r.ag=ag)
def pL (l:List bP) (dG dw:ByteArray):Option (bP×Nat):=(oG l dG).bind fun s=>(nB s.rs dw).map fun j=>(s,j)
def sG (s:bP) (r:bf):ByteArray:=if 0≤r.bK∧r.bK<s.ds.length then (s.ds[r.bK.toNat]?.getD ⟨eP,0,0⟩).ag else eP
def p7 (s:bP) (r:bf):ByteArray:=if 0≤r.bD∧r.bD<s.rs.length then (s.rs[r.bD.toNat]?.getD lx).ag else eP
def Bq (s t:bP) (p q:bf):Prop:=sG s p=sG t q∧p7 s p=p7 t q∧p.fa=q.fa∧p.dH=q.dH∧p.dB=q.dB∧p.src=q.src∧p.g=q.g∧p.v=q.v
noncomputable def Ix (s t:bP) (p q:bf):Bool:= @decide (Bq s t p q) (Classical.propDecidable _)
theorem Mf {s t:bP} {p q:bf}:Ix s t p q=true↔Bq s t p q:=by unfold Ix;exact @decide_eq_true_iff _ (Classical.propDecidable _)
noncomputable def nR (B:List bP) (s:bP) (r:bf):List jV:=
 match pL B s.ag r.ag with
 |none=>[⟨s.ag,r.ag,1⟩]
 |some (t,j)=>if Ix s t r (t.rs[j]?.getD lx)=true then []else [⟨s.ag,r.ag,3⟩]
def qy (A:List bP) (s:bP) (r:bf):List jV:=if (pL A s.ag r.ag).isSome=true then []else [⟨s.ag,r.ag,2⟩]
noncomputable def j2 (A B:cZ):List jV:=(A.sc.flatMap fun s=>s.rs.flatMap (nR B.sc s))++B.sc.flatMap fun s=>s.rs.flatMap (qy A.sc s)
structure Gl (L:cZ) (s:bP):Prop where
 ok:rr s
 dj:∀(i j:Nat) (f g:lE),s.ds[i]?=some f→s.ds[j]?=some g→f.ag=g.ag→i=j
 rd:∀r∈s.rs,0≤r.bK∧r.bK<s.ds.length
 dw:∀r∈s.rs,r.ag≠eP
 ms:s.ms= -1∨(0≤s.ms∧s.ms<L.sc.length)
 Zy:∀r∈s.rs,∀e,(e∈kl r.g∨e∈kl r.v)→0≤s.ms∧0≤e∧e<(b0 L s).ds.length
structure xU (L:cZ):Prop where
 dG:∀(i j:Nat) (s t:bP),L.sc[i]?=some s→L.sc[j]?=some t→s.ag=t.ag→i=j
 sc:∀s∈L.sc,Gl L s
structure lI (s t:bP):Prop where
 ag:s.ag=t.ag
 ms:s.ms=t.ms
 ins:s.ins=t.ins
 ds:s.ds=t.ds
structure vb (A B:cZ):Prop where
 bm:A.bm=B.bm
 tb:A.tb=B.tb
 len:A.sc.length=B.sc.length
 sc:∀(i:Nat) (s t:bP),A.sc[i]?=some s→B.sc[i]?=some t→lI s t
def rq (L:cZ) (s:bP) (d:Int) (dG dw:ByteArray):Prop:=
 (∃r∈s.rs,sy s.ds.length s.rs d r.bK∧dG=s.ag∧dw=r.ag)∨
 (0≤s.ms∧s.ms<L.sc.length∧∃r∈(b0 L s).rs,(∃e∈hG s.ds.length s.rs d,sy (b0 L s).ds.length (b0 L s).rs e r.bK)∧dG=(b0 L s).ag∧dw=r.ag)
theorem O9 {l:List bP} (aq:∀(i j:Nat) (s t:bP),l[i]?=some s→l[j]?=some t→s.ag=t.ag→i=j) {s:bP} (ax:s∈l):oG l s.ag=some s:=by
 unfold oG
 cases h:l.find? fun x=>decide (x.ag=s.ag)with
 |none=>exact absurd (List.find?_eq_none.1 h s ax) (by simp)
 |some t=>
  have I:=List.find?_some h;have U:=List.mem_of_find?_eq_some h;obtain⟨i,aE⟩:=List.getElem?_of_mem ax;obtain⟨j,aB⟩:=List.getElem?_of_mem U;have:=aq i j s t aE aB (by simpa using (of_decide_eq_true I).symm);subst this;rw[aE]at aB;exact aB.symm
theorem Mb {l:List bf} {ag:ByteArray} {j:Nat} (h:nB l ag=some j):∃r,l[j]?=some r∧r.ag=ag:=by
 unfold nB at h;obtain⟨I,U,-⟩:=List.findIdx?_eq_some_iff_getElem.1 h;exact⟨l[j],a8 I,of_decide_eq_true U⟩
theorem aia {l:List bf} {ag:ByteArray} (h:nB l ag=none) {r:bf} (aH:r∈l):r.ag≠ag:=by
 unfold nB at h;have:=List.findIdx?_eq_none_iff.1 h r aH;simpa using this
theorem U4 {A B:cZ} {s:bP} {r:bf} {x:jV} (ax:s∈A.sc) (aH:r∈s.rs) (af:x∈nR B.sc s r):x∈j2 A B:=
 List.mem_append_left _ (List.mem_flatMap.2 ⟨s,ax,List.mem_flatMap.2 ⟨r,aH,af⟩⟩)
theorem adb {A B:cZ} {s:bP} {r:bf} {x:jV} (ax:s∈B.sc) (aH:r∈s.rs) (af:x∈qy A.sc s r):x∈j2 A B:=
 List.mem_append_right _ (List.mem_flatMap.2 ⟨s,ax,List.mem_flatMap.2 ⟨r,aH,af⟩⟩)
theorem Z4 {L:cZ} {s:bP} (ax:Gl L s) {r:bf} (aH:r∈s.rs):(r.bD= -1∧p7 s r=eP)∨(0≤r.bD∧∃p,s.rs[r.bD.toNat]?=some p∧p7 s r=p.ag∧p.ag≠eP):=by
 obtain⟨i,aE⟩:=List.getElem?_of_mem aH;have fP:=(b8 aE).1;rcases ax.ok.rs.bD i r aE with h|⟨I,U,p,ae,-⟩
 ·exact .inl ⟨h,by unfold p7;rw[if_neg (by omega)]⟩
 ·refine .inr ⟨I,p,ae,?_,ax.dw p (List.mem_of_getElem? ae)⟩;unfold p7;rw[if_pos ⟨I,by omega⟩,ae,Option.getD_some]
theorem aav {A B:cZ} {s t:bP} (ax:Gl A s) (bS:Gl B t) (K0:s.ds=t.ds) {p q:bf} (hp:p∈s.rs) (au:q∈t.rs) (aA:p.ag=q.ag) (h:Bq s t p q):m' s.rs t.rs p q:=by
 obtain⟨I,U,ae,aJ,bp,eJ,kc,et⟩:=h;have dq:=ax.rd p hp;have aO:=bS.rd q au;refine⟨aA,?_,ae,aJ,bp,kc,et,?_⟩
 ·unfold sG at I;rw[if_pos dq,if_pos aO,←K0]at I;rw[←K0]at aO;have az:s.ds[p.bK.toNat]?=some _:=a8 (by omega);have a6:s.ds[q.bK.toNat]?=some _:=a8 (by omega);rw[az,a6]at I;have:=ax.dj _ _ _ _ az a6 I;omega
 ·rcases Z4 ax hp with⟨cE,a2⟩|⟨cE,x,a2,a3,a4⟩<;>rcases Z4 bS au with⟨aC,aM⟩|⟨aC,y,aM,a1,bN⟩
  ·exact .inl ⟨cE,aC⟩
  ·rw[a2,a1]at U;exact absurd U.symm bN
  ·rw[a3,aM]at U;exact absurd U a4
  ·rw[a3,a1]at U;exact .inr ⟨cE,aC,x,y,a2,aM,U⟩
section
variable {A B:cZ}
theorem aeM (aK:xU A) (aU:xU B) {s t:bP} (ax:s∈A.sc) (bS:t∈B.sc) (df:lI s t) {r:bf} (aH:r∈s.rs) (I:(⟨s.ag,r.ag,1⟩:jV)∉j2 A B) (ae:(⟨s.ag,r.ag,3⟩:jV)∉j2 A B):∃q∈t.rs,m' s.rs t.rs r q:=by
 have bO:=O9 aU.dG bS;rw[←df.ag]at bO;have key:∀x,x∈nR B.sc s r→x∈j2 A B:=fun x af=>U4 ax aH af;unfold nR pL at key;rw[bO,Option.bind_some]at key
 cases aB:nB t.rs r.ag with
 |none=>
  rw[aB]at key;exact absurd (key _ (by simp)) I
 |some j=>
  rw[aB]at key;obtain⟨q,au,Ck⟩:=Mb aB;simp only[Option.map_some]at key;rw[au,Option.getD_some]at key;by_cases lp:Ix s t r q=true
  ·exact⟨q,List.mem_of_getElem? au,aav (aK.sc s ax) (aU.sc t bS) df.ds aH (List.mem_of_getElem? au) Ck.symm (Mf.1 lp)⟩
  ·rw[if_neg lp]at key;exact absurd (key _ (by simp)) ae
theorem aeL (aK:xU A) (aU:xU B) {s t:bP} (ax:s∈A.sc) (bS:t∈B.sc) (df:lI s t) {q:bf} (au:q∈t.rs) (U:(⟨t.ag,q.ag,2⟩:jV)∉j2 A B) (ae:(⟨t.ag,q.ag,3⟩:jV)∉j2 A B):∃r∈s.rs,m' t.rs s.rs q r:=by
 have bO:=O9 aK.dG ax;rw[df.ag]at bO;have key:∀x,x∈qy A.sc t q→x∈j2 A B:=fun x af=>adb bS au af;unfold qy pL at key;rw[bO,Option.bind_some]at key
 cases aB:nB s.rs q.ag with
 |none=>
  rw[aB]at key;exact absurd (key _ (by simp)) U
 |some j=>
  obtain⟨r,aH,nv⟩:=Mb aB;have EF:=List.mem_of_getElem? aH;refine⟨r,EF,?_⟩;have Xf:=O9 aU.dG bS;rw[←df.ag]at Xf;have Cy:∀x,x∈nR B.sc s r→x∈j2 A B:=fun x af=>U4 ax EF af;unfold nR pL at Cy;rw[Xf,Option.bind_some]at Cy
  cases B9:nB t.rs r.ag with
  |none=>exact absurd nv.symm (aia B9 au)
  |some k=>
   obtain⟨Fa,xa,afn⟩:=Mb B9;obtain⟨i,aE⟩:=List.getElem?_of_mem au;have:=(aU.sc t bS).ok.rs.c7 _ _ _ _ xa aE (afn.trans nv);subst this;rw[xa]at aE;obtain rfl:=Option.some.inj aE;rw[B9]at Cy;simp only[Option.map_some]at Cy;rw[xa,Option.getD_some]at Cy;by_cases lp:Ix s t r Fa=true
   ·exact (aav (aK.sc s ax) (aU.sc t bS) df.ds EF au nv (Mf.1 lp)).symm
   ·rw[if_neg lp]at Cy;rw[←df.ag,←nv]at ae;exact absurd (Cy _ (by simp)) ae
theorem ai5:rr iq:=by
 refine⟨⟨fun i j r s h=>by simp[iq]at h,fun i r h=>by simp[iq]at h⟩,fun d h=> ?_⟩;have:=h.ES (n:=0) (BG 0 []);omega
theorem xU.b0 (h:xU A) {s:bP} (ax:s∈A.sc):rr (b0 A s)∧(0≤s.ms→b0 A s∈A.sc)∧∀d:Int,0≤d∧d<s.ds.length→gU (b0 A s).ds.length (hG s.ds.length s.rs d):=by
 have ay:=h.sc s ax;have hm:0≤s.ms→Go.Proofs.YtobpgndkciofhaaGreatDoor.b0 A s∈A.sc:=fun aj=>by
  have aD:s.ms.toNat<A.sc.length:=by rcases ay.ms with h|h<;>omega
  unfold Go.Proofs.YtobpgndkciofhaaGreatDoor.b0;rw[if_pos aj,a8 aD,Option.getD_some];exact List.getElem_mem aD
 refine⟨?_,hm,fun d av e he=> ?_⟩
 ·by_cases aj:0≤s.ms
  ·exact (h.sc _ (hm aj)).ok
  ·unfold Go.Proofs.YtobpgndkciofhaaGreatDoor.b0;rw[if_neg aj];exact ai5
 ·rw[Re av]at he;obtain⟨r,aH,-,-,ae⟩:=he;exact (ay.Zy r aH e ae).2
theorem ajW (aK:xU A) (aU:xU B) (bC:vb A B) {i:Nat} {a b:bP} (aZ:A.sc[i]?=some a) (J:B.sc[i]?=some b) {d:Int} (av:0≤d∧d<a.ds.length)
  (h:∀x∈j2 A B,¬((x.k≠2∧rq A a d x.sc x.dF)∨(x.k≠1∧rq B b d x.sc x.dF))):zE A B a b d:=by
 have df:=bC.sc i a b aZ J;have wZ:=List.mem_of_getElem? aZ;have sL:=List.mem_of_getElem? J;have np:b.ds.length=a.ds.length:=by rw[df.ds]
 obtain⟨H',Zh,ma3⟩:=aK.b0 wZ;obtain⟨cI,Zn,mb3⟩:=aU.b0 sL;have hold:∀{s t:bP} {r:bf},s∈A.sc→t∈B.sc→lI s t→r∈s.rs→rq A a d s.ag r.ag→∃q∈t.rs,m' s.rs t.rs r q:=fun ax bS df aH hrel=>
  aeM aK aU ax bS df aH (fun af=>h _ af (.inl ⟨by simp,hrel⟩)) (fun af=>h _ af (.inl ⟨by simp,hrel⟩))
 have XS:∀{s t:bP} {q:bf},s∈A.sc→t∈B.sc→lI s t→q∈t.rs→rq B b d t.ag q.ag→∃r∈s.rs,m' t.rs s.rs q r:=fun ax bS df aH hrel=>
  aeL aK aU ax bS df aH (fun af=>h _ af (.inr ⟨by simp,hrel⟩)) (fun af=>h _ af (.inr ⟨by simp,hrel⟩))
 have lP:0≤a.ms→lI (b0 A a) (b0 B b):=fun aj=>by
  have aD:a.ms.toNat<A.sc.length:=by rcases (aK.sc a wZ).ms with h|h<;>omega
  have VS:0≤b.ms:=by rw[←df.ms];exact aj
  unfold b0;rw[if_pos aj,if_pos VS,←df.ms,a8 aD,a8 (by rw[←bC.len];exact aD),Option.getD_some,Option.getD_some];exact bC.sc _ _ _ (a8 aD) (a8 _)
 have qK:(b0 B b).ds=(b0 A a).ds:=by
  by_cases aj:0≤a.ms
  ·exact (lP aj).ds.symm
  ·unfold b0;rw[if_neg aj,if_neg (by rw[←df.ms];exact aj)]
 have w_:∀(n:Nat) (rs:List bf) (L:cZ) (s:bP),n=s.ds.length→rs=s.rs→Gl L s→∀{e:Int},e∈hG n rs d→0≤d∧d<n→0≤s.ms:=fun n rs L s aA aH ay e he iV=>by
  subst aA aH;rw[Re iV]at he;obtain⟨r,aH,-,-,ae⟩:=he;exact (ay.Zy r aH e ae).1
 have hlen:a.ms<A.sc.length∧b.ms<B.sc.length:=by
  rcases (aK.sc a wZ).ms with I|I<;>rcases (aU.sc b sL).ms with U|U<;>omega
 refine⟨bC.tb,av,np,qK,(aK.sc a wZ).ok,(aU.sc b sL).ok,H',cI,ma3 d av,mb3 d (by rw[np];exact av),fun r aH au=> ?_,fun q au Qq=> ?_,fun e he r aH au=> ?_,fun e he q au Qq=> ?_⟩
 ·exact hold wZ sL df aH (.inl ⟨r,aH,au,rfl,rfl⟩)
 ·exact XS wZ sL df au (.inl ⟨q,au,by rw[np];exact Qq,rfl,rfl⟩)
 ·have aj:=w_ _ _ A a rfl rfl (aK.sc a wZ) he av;exact hold (Zh aj) (Zn (by rw[←df.ms];exact aj)) (lP aj) aH (.inr ⟨aj,hlen.1,r,aH,⟨e,he,au⟩,rfl,rfl⟩)
 ·have aj:0≤b.ms:=w_ _ _ B b np.symm rfl (aU.sc b sL) he av;have VR:0≤a.ms:=by rw[df.ms];exact aj
  exact XS (Zh VR) (Zn aj) (lP VR) au (.inr ⟨aj,hlen.2,q,au,⟨e,by rw[np];exact he,by rw[qK];exact Qq⟩,rfl,rfl⟩)
end
theorem zR {α β:Type} {g:α→List β} (ai:∀r,(g r).length≤1):∀l:List α,(l.flatMap g).length≤l.length
 |[]=>Nat.le_refl _
 |x::l=>by
  rw[List.flatMap_cons,List.length_append,List.length_cons];have:=ai x;have:=zR ai l;omega
def lv (l:List bP):Nat:=(l.map fun s=>s.rs.length).sum
theorem Rk (x:bP) (l:List bP):lv (x::l)=x.rs.length+lv l:=by unfold lv;rw[List.map_cons,List.sum_cons]
theorem RJ {f:bP→bf→List jV} (bO:∀s r,(f s r).length≤1):∀{l:List bP} {i:Nat} {s:bP},l[i]?=some s→∀j,((l.take i).flatMap (fun s=>s.rs.flatMap (f s))++(s.rs.take j).flatMap (f s)).length≤lv l
 |[],i,s,h,j=>by simp at h
 |x::l,0,s,h,j=>by
  have e:x=s:=Option.some.inj h;subst e;rw[List.take_zero,List.flatMap_nil,List.nil_append,Rk];have:=zR (bO x) (x.rs.take j);rw[List.length_take]at this;omega
 |x::l,i+1,s,h,j=>by
  have:=RJ bO (l:=l) (i:=i) (s:=s) (by simpa using h) j;rw[List.take_succ_cons,List.flatMap_cons,List.append_assoc,List.length_append,Rk];have:=zR (bO x) x.rs;omega
theorem JW {f:bP→bf→List jV} (bO:∀s r,(f s r).length≤1):∀l:List bP,(l.flatMap (fun s=>s.rs.flatMap (f s))).length≤lv l
 |[]=>Nat.zero_le _
 |x::l=>by
  have:=JW bO l;have:=zR (bO x) x.rs;rw[List.flatMap_cons,List.length_append,Rk];omega
theorem D1 {α β:Type} (g:α→List β) {l:List α} {i:Nat} {x:α} (h:l[i]?=some x):(l.take (i+1)).flatMap g=(l.take i).flatMap g++g x:=by
 rw[List.take_add_one,h,Option.toList_some,List.flatMap_append,List.flatMap_cons,List.flatMap_nil,List.append_nil]
theorem Oz (B:List bP) (s:bP) (r:bf):(nR B s r).length≤1:=by
 unfold nR;split
 ·exact Nat.le_refl _
 ·split<;>simp
theorem U3 (A:List bP) (s:bP) (r:bf):(qy A s r).length≤1:=by
 unfold qy;split<;>simp
def NX (L:cZ):Prop:=∀s∈L.sc,s.ag.size≤140737488355328∧∀r∈s.rs,r.ag.size≤140737488355328
theorem gy.ZJ {w:World} {v:Value} {L:cZ} (h:gy w v L):NX L:=by
 obtain⟨c_,b4,b2,rfl,-,-,A,c,rfl,-,-,af⟩:=h;intro s ax;obtain⟨i,aE⟩:=List.getElem?_of_mem ax;have fP:=(b8 aE).1;obtain⟨b,o,-,-,ah⟩:=af (by omega);obtain⟨⟨-,I⟩,-,-,-,bA,-,cM,aM,-,-,-,db⟩:=ah i s aE;refine⟨I,fun r aH=> ?_⟩;obtain⟨j,aB⟩:=List.getElem?_of_mem aH;have Hy:=(b8 aB).1;obtain⟨bc,k4,-,-,fE⟩:=db (by omega);exact (fE j r aB).1.2
theorem ada {A B:cZ} (aZ:NX A) (J:NX B):∀x∈j2 A B,x.sc.size≤140737488355328∧x.dF.size≤140737488355328:=by
 intro x af;unfold j2 at af;rcases List.mem_append.1 af with h|h
 ·obtain⟨s,ax,h⟩:=List.mem_flatMap.1 h;obtain⟨r,aH,h⟩:=List.mem_flatMap.1 h;obtain⟨I,U⟩:=aZ s ax;unfold nR at h;split at h
  ·rw[List.mem_singleton.1 h];exact⟨I,U r aH⟩
  ·split at h
   ·cases h
   ·rw[List.mem_singleton.1 h];exact⟨I,U r aH⟩
 ·obtain⟨s,ax,h⟩:=List.mem_flatMap.1 h;obtain⟨r,aH,h⟩:=List.mem_flatMap.1 h;obtain⟨I,U⟩:=J s ax;unfold qy at h;split at h
  ·cases h
  ·rw[List.mem_singleton.1 h];exact⟨I,U r aH⟩
theorem ac9 (A B:cZ):(j2 A B).length≤lv A.sc+lv B.sc:=by
 unfold j2;rw[List.length_append];have:=JW (Oz B.sc) A.sc;have:=JW (U3 A.sc) B.sc;omega
def kZ (x:jV):List Value:=[.string x.sc,x.dF,x.k]
theorem J' (x:jV):∀u∈kZ x,u.oneCell'=true:=by
 intro u hu;simp only[kZ,List.mem_cons,List.not_mem_nil,or_false]at hu;rcases hu with rfl|rfl|rfl<;>rfl
theorem ac5 (x:jV):(kZ x).length=3:=rfl
def Kg (l:List jV) (w:World) (e:Ending) (w':World):Prop:=∃v,e= .returned v∧gV w' kZ 3 v l∧Kept w w'
theorem ad4 {l:List bP} {dG dw:ByteArray} {t:bP} {j:Nat} (h:pL l dG dw=some (t,j)):∃q,t.rs[j]?=some q:=by
 unfold pL at h
 cases I:oG l dG with
 |none=>rw[I]at h;cases h
 |some s=>
  rw[I,Option.bind_some]at h
  cases U:nB s.rs dw with
  |none=>rw[U]at h;cases h
  |some k=>
   rw[U]at h;simp only[Option.map_some,Option.some.injEq,Prod.mk.injEq]at h;obtain⟨rfl,rfl⟩:=h;obtain⟨q,au,-⟩:=Mb U;exact⟨q,au⟩
section
open Go.Maps (Keyed)
theorem Tryz.yR:Keyed prog 9:=Maps.string_keyed (by kernel_rfl)
theorem Tryz.HY:prog.underlying 77=some (.map 9 119):=by kernel_rfl
theorem Tryz.Ma:prog.underlying 117=some (.map 9 3):=by kernel_rfl
def R2:Value:= .agg #[.string ⟨#[]⟩,(),aR,aR,aR,.map none]
theorem Tryz.Mj (w:World):(zeroValue 119).run prog w= .ok R2 w:=by kernel_rfl
theorem Tryz.QQ (w:World):(zeroValue 3).run prog w= .ok () w:=by kernel_rfl
theorem Mp {s:ByteArray} (h:s.size≤140737488355328):keyOf prog 9 (.string s)=some (.string s.data.toList):=Go.WideMaps.keyOf_string_mk (by kernel_rfl) (by unfold maxLen;omega)
def ab6 (ey mi:Nat) (G:Value→Option Value) (s:bP) (w:World):Prop:=gb 9 ey mi G w∧∀dw:ByteArray,G (.string dw)=(nB s.rs dw).map (fun j=>Value.int .i64 (j:Nat))
def JI (w:World) (s:bP) (v:Value):Prop:=∃bo b6 bA ey mi G,v= .agg #[s.ag,s.ms,bo,b6,bA,.map (some ey)]∧iH w (.agg #[s.ag,s.ms,bo,b6,bA]) s∧ab6 ey mi G s w
def zr (w:World) (v:Value) (l:List bP):Prop:=∃b n F,v= .map (some b)∧gb 9 b n F w∧∀ag:ByteArray,match oG l ag with
 |none=>F (.string ag)=none
 |some s=>∃u,F (.string ag)=some u∧JI w s u
theorem JI.kept {w w':World} {s:bP} {v:Value} (h:JI w s v) (aa:Kept w w'):JI w' s v:=by
 obtain⟨bo,b6,bA,ey,mi,G,rfl,I,U,ae⟩:=h;exact⟨bo,b6,bA,ey,mi,G,rfl,I.kept aa,U.kept aa,ae⟩
theorem zr.kept {w w':World} {v:Value} {l:List bP} (h:zr w v l) (aa:Kept w w'):zr w' v l:=by
 obtain⟨b,n,F,rfl,I,U⟩:=h;refine⟨b,n,F,rfl,I.kept aa,fun ag=> ?_⟩;have:=U ag
 cases ae:oG l ag with
 |none=>rw[ae]at this;exact this
 |some s=>
  rw[ae]at this;obtain⟨u,aJ,bp⟩:=this;exact⟨u,aJ,bp.kept aa⟩
def Vh (R:Option (bP×Nat)) (w:World) (e:Ending) (w':World):Prop:=∃(t:bP) (j:Nat) (b2:Value),e= .returned (.tuple #[b2,j,.bool R.isSome])∧iH w' b2 t∧Kept w w'∧∀Mr YX,R=some (Mr,YX)→t=Mr∧j=YX
theorem spZ (w:World):iH w (.agg #[.string ⟨#[]⟩,(),aR,aR,aR]) iq:=
 ⟨_,_,_,rfl,⟨none,0,rfl,Nat.le_refl _,by simp[iq],fun h=>absurd h (by simp[iq])⟩,⟨none,0,rfl,Nat.le_refl _,by simp[iq],fun h=>absurd h (by simp[iq])⟩,⟨none,0,rfl,Nat.le_refl _,by simp[iq],fun h=>absurd h (by simp[iq])⟩⟩
theorem Vg (v:Value) (l:List bP) (dG dw:ByteArray) (w:World) (c5:zr w v l) (ax:dG.size≤140737488355328) (aH:dw.size≤140737488355328):
  Calls prog 18 #[v,dG,dw] w (Vh (pL l dG dw) w):=by
 obtain⟨b,n,F,rfl,br,hF⟩:=c5;have mB:=hF dG;have Nk:=hid (Mp ax);have qe:=hid (Mp aH)
 cases I:oG l dG with
 |none=>
  rw[I]at mB;have aV:=hid mB;have aI:=hid (show pL l dG dw=none by unfold pL;rw[I];rfl);rw[aI.out];clear hF mB I;go_enter func18,ntmps18
  go_upto_region 1 with fail
  generalize ar:w.alloc _=W at*;obtain⟨aF,e0⟩:=Kept.az ar;clear ar;have wY:=br.kept aF;have aG:=wY.look true Tryz.yR Tryz.HY (Tryz.Mj W) Nk.out;rw[aV.out]at aG;simp only[if_true,Option.getD_none,Option.isSome_none,R2]at aG;go_upto_region 2 with fail
  generalize ar:W.alloc _=V at*;obtain⟨ek,fg⟩:=Kept.az ar;clear ar;have er:=hid (aF.trans ek);have eE:=e0.kept ek;clear aG wY e0 aF;obtain⟨eZ,j_⟩:=fg.p;clear fg;have bq:=hid ((((((eE.aP 0 (.string ⟨#[]⟩)).aP 1 ()).aP 2 aR).aP 3 aR).aP 4 aR).cell);have nH:=hid (((((er.out.setCell (p:=⟨w.heap.size,0,none⟩) (Nat.le_refl _) (.string ⟨#[]⟩)).setCell (p:=⟨w.heap.size,1,none⟩) (Nat.le_refl _) ()).setCell (p:=⟨w.heap.size,2,none⟩) (Nat.le_refl _) aR).setCell (p:=⟨w.heap.size,3,none⟩) (Nat.le_refl _) aR).setCell (p:=⟨w.heap.size,4,none⟩) (Nat.le_refl _) aR);obtain⟨eQ,ev,f6⟩:=eE.q;clear eE;go_wp2_with fail
  have cu:=bq.out;exact bodyPost_ret (v:= .tuple #[.agg #[.string ⟨#[]⟩,(),aR,aR,aR],(),.bool false]) (by simp[results,results18,go_sem,cu]) rfl ⟨iq,0,_,rfl,spZ _,nH.out,fun _ _ h=>by cases h⟩
 |some s=>
  rw[I]at mB;obtain⟨u,hu,bo,b6,bA,ey,mi,G,rfl,bj,ar,Pr⟩:=mB;have gr:=Pr dw;have aV:=hid hu;have cD:=hid bj;obtain⟨_,_,_,he,bC,b',sK⟩:=bj;simp only[Value.agg.injEq,Array.mk.injEq,List.cons.injEq,true_and,and_true]at he;obtain⟨rfl,rfl,rfl⟩:=he;obtain⟨gN,gS,rfl,-⟩:=bC;obtain⟨fo,fS,rfl,-⟩:=b';obtain⟨eC,rc,rfl,-⟩:=sK;clear hF hu Pr
  cases U:nB s.rs dw with
  |none=>
   rw[U]at gr;have dO:=hid gr;have aI:=hid (show pL l dG dw=none by unfold pL;rw[I,Option.bind_some,U];rfl);rw[aI.out];clear gr I U;generalize s.ins.length=b1 at*;generalize s.ds.length=cS at*;generalize s.rs.length=c' at*;go_enter func18,ntmps18
   go_upto_region 1 with fail
   generalize ar:w.alloc _=W at*;obtain⟨aF,e0⟩:=Kept.az ar;clear ar;have wY:=br.kept aF;have aG:=wY.look true Tryz.yR Tryz.HY (Tryz.Mj W) Nk.out;rw[aV.out]at aG;simp only[if_true,Option.getD_some,Option.isSome_some]at aG;go_upto_region 2 with fail
   generalize ar:W.alloc _=V at*;obtain⟨ek,fg⟩:=Kept.az ar;clear ar;have er:=hid (aF.trans ek);have eE:=e0.kept ek;have rG:=ar.kept er.out;clear aG wY e0 aF;obtain⟨eZ,j_⟩:=fg.p;clear fg;have aG:=rG.look true Tryz.yR Tryz.Ma (Tryz.QQ V) qe.out;rw[dO.out]at aG;simp only[if_true,Option.map_none,Option.getD_none,Option.isSome_none]at aG;have bq:=hid ((((((eE.aP 0 (.string ⟨#[]⟩)).aP 1 ()).aP 2 aR).aP 3 aR).aP 4 aR).cell);have nH:=hid (((((er.out.setCell (p:=⟨w.heap.size,0,none⟩) (Nat.le_refl _) (.string ⟨#[]⟩)).setCell (p:=⟨w.heap.size,1,none⟩) (Nat.le_refl _) ()).setCell (p:=⟨w.heap.size,2,none⟩) (Nat.le_refl _) aR).setCell (p:=⟨w.heap.size,3,none⟩) (Nat.le_refl _) aR).setCell (p:=⟨w.heap.size,4,none⟩) (Nat.le_refl _) aR);obtain⟨eQ,ev,f6⟩:=eE.q;clear eE;go_wp2_with fail
   have cu:=bq.out;exact bodyPost_ret (v:= .tuple #[.agg #[.string ⟨#[]⟩,(),aR,aR,aR],(),.bool false]) (by simp[results,results18,go_sem,cu]) rfl ⟨iq,0,_,rfl,spZ _,nH.out,fun _ _ h=>by cases h⟩
  |some j=>
   rw[U]at gr;have dO:=hid gr;have aI:=hid (show pL l dG dw=some (s,j) by unfold pL;rw[I,Option.bind_some,U];rfl);rw[aI.out];clear gr I U;generalize s.ins.length=b1 at*;generalize s.ds.length=cS at*;generalize s.rs.length=c' at*;go_enter func18,ntmps18
   go_upto_region 1 with fail
   generalize ar:w.alloc _=W at*;obtain⟨aF,e0⟩:=Kept.az ar;clear ar;have wY:=br.kept aF;have aG:=wY.look true Tryz.yR Tryz.HY (Tryz.Mj W) Nk.out;rw[aV.out]at aG;simp only[if_true,Option.getD_some,Option.isSome_some]at aG;go_upto_region 2 with fail
   generalize ar:W.alloc _=V at*;obtain⟨ek,fg⟩:=Kept.az ar;clear ar;have er:=hid (aF.trans ek);have eE:=e0.kept ek;have rG:=ar.kept er.out;clear aG wY e0 aF;obtain⟨eZ,j_⟩:=fg.p;clear fg;have aG:=rG.look true Tryz.yR Tryz.Ma (Tryz.QQ V) qe.out;rw[dO.out]at aG;simp only[if_true,Option.map_some,Option.getD_some,Option.isSome_some]at aG;have bq:=hid ((((((eE.aP 0 (.string s.ag)).aP 1 s.ms).aP 2 (.slice gN b1 gS)).aP 3 (.slice fo cS fS)).aP 4 (.slice eC c' rc)).cell);have nH:=hid (((((er.out.setCell (p:=⟨w.heap.size,0,none⟩) (Nat.le_refl _) (.string s.ag)).setCell (p:=⟨w.heap.size,1,none⟩) (Nat.le_refl _) s.ms).setCell (p:=⟨w.heap.size,2,none⟩) (Nat.le_refl _) (.slice gN b1 gS)).setCell (p:=⟨w.heap.size,3,none⟩) (Nat.le_refl _) (.slice fo cS fS)).setCell (p:=⟨w.heap.size,4,none⟩) (Nat.le_refl _) (.slice eC c' rc));obtain⟨eQ,ev,f6⟩:=eE.q;clear eE;go_wp2_with fail
   have cu:=bq.out;exact bodyPost_ret (v:= .tuple #[.agg #[s.ag,s.ms,.slice gN b1 gS,.slice fo cS fS,.slice eC c' rc],j,.bool true]) (by simp[results,results18,go_sem,cu]) rfl ⟨s,j,_,rfl,cD.out.kept nH.out,nH.out,fun _ _ h=>by cases h;exact⟨rfl,rfl⟩⟩
end
section
open Go.Maps (Keyed)
theorem Tryz.laidOut:laidOutB prog=true:=by kernel_rfl
theorem Tryz.aic:(match prog.underlying 112 with|some (.array _ _)|some (.struct _)=>true|_=>false)=true:=by kernel_rfl
theorem Tryz.RQ:Keyed prog 112:=Keyed.of_law (deep_law_laid Tryz.laidOut (m:=2) (by omega) (of_decide_eq_true (by kernel_rfl)) (by kernel_rfl) Tryz.aic)
theorem Tryz.RR:prog.underlying 109=some (.map 112 4):=by kernel_rfl
theorem Tryz.YR:Keyed prog 3:=Maps.int_keyed (q:= .i64) (by kernel_rfl)
theorem Tryz.YL:prog.underlying 171=some (.map 3 4):=by kernel_rfl
theorem Tryz.Om (w:World):(zeroValue 4).run prog w= .ok (.bool false) w:=by kernel_rfl
theorem YQ {n:Int} (I: -9223372036854775808≤n) (U:n≤9223372036854775807):keyOf prog 3 (.int .i64 n)=some (.int .i64 n):=Maps.keyOf_int_mk (q:= .i64) (by kernel_rfl) (by
 unfold Lit.wf;exact Bool.and_eq_true_iff.2 ⟨decide_eq_true I,decide_eq_true U⟩)
theorem aaR {d:Nat} {x:ByteArray} (h:x.size≤maxLen):prog.keyLits (d+1) 9 [.string x]=some [.string x.data.toList]:=by
 unfold Program.keyLits;rw[underlying9];exact if_pos h
theorem aap {a b:ByteArray} (aZ:a.size≤140737488355328) (J:b.size≤140737488355328):∃uh,keyOf prog 112 (.agg #[.string a,.string b])=some uh:=by
 obtain⟨d,av⟩:∃d,prog.types.size=d+1:=Nat.exists_eq_succ_of_ne_zero (of_decide_eq_true (by kernel_rfl));have I:a.size≤maxLen:=by unfold maxLen;omega
 have U:b.size≤maxLen:=by unfold maxLen;omega
 have ae:prog.keyType 112=true:=by kernel_rfl
 have aJ:prog.cellsOf 112=2:=by kernel_rfl
 have bp:prog.cellsOf 9=1:=by kernel_rfl
 have bO:(Value.agg #[.string a,.string b]).formed prog 112=true:=by
  unfold Value.formed;rw[underlying112];simp only[aJ];rfl
 have aq:prog.keyLits (prog.types.size+1) 112 [.string a,.string b]=some [.string a.data.toList,.string b.data.toList]:=by
  rw[av];unfold Program.keyLits;rw[underlying112];dsimp only;rw[if_pos ⟨aJ.symm,by decide+kernel⟩];simp only[List.mapM_cons,List.mapM_nil,bp,List.drop_zero,List.drop_succ_cons,List.take_succ_cons,List.take_zero,aaR I,aaR U];rfl
 unfold keyOf;rw[underlying112];dsimp only;rw[ae,bO];rw[show (Value.agg #[Value.string a,Value.string b]).cells.toList=[.string a,.string b]from rfl,aq];exact⟨_,rfl⟩
end
theorem aax {l:List bP} {i:Nat} {x:bP} (h:l[i]?=some x) (ag:ByteArray):oG (l.take (i+1)) ag=match oG (l.take i) ag with
  |some s=>some s
  |none=>if x.ag=ag then some x else none:=by
 unfold oG;rw[List.take_add_one,h,List.find?_append]
 cases I:(l.take i).find? (fun s=>decide (s.ag=ag))with
 |some s=>simp
 |none=>by_cases e:x.ag=ag<;>simp[e]
theorem aan {l:List bf} {i:Nat} {x:bf} (h:l[i]?=some x) (ag:ByteArray):nB (l.take (i+1)) ag=match nB (l.take i) ag with
  |some s=>some s
  |none=>if x.ag=ag then some i else none:=by
 have aE:=(b8 h).1;unfold nB;rw[List.take_add_one,h,Option.toList_some,List.findIdx?_append]
 cases I:(l.take i).findIdx? (fun s=>decide (s.ag=ag))with
 |some s=>simp
 |none=>
  have aq:(l.take i).length=i:=by rw[List.length_take];omega
  by_cases e:x.ag=ag<;>simp[e,aq,List.findIdx?_cons]<;>omega
def zz (G:Value→Option Value) (rs:List bf):Prop:=∀dw:ByteArray,G (.string dw)=(nB rs dw).map (fun j=>Value.int .i64 (j:Nat))
theorem zz.skip {G:Value→Option Value} {rs:List bf} {j:Nat} {r:bf} (h:zz G (rs.take j)) (aH:rs[j]?=some r) {k:Nat} (aa:nB (rs.take j) r.ag=some k):zz G (rs.take (j+1)):=fun dw=>by
 rw[h dw,aan aH dw]
 cases I:nB (rs.take j) dw with
 |some s=>rfl
 |none=>
  by_cases e:r.ag=dw
  ·rw[e,I]at aa;cases aa
  ·simp only;rw[if_neg e]
theorem aaT {a b:ByteArray} (h:a≠b):Value.string a≠Value.string b:=fun e=>h (by injection e)
theorem zz.put {G:Value→Option Value} {rs:List bf} {j:Nat} {r:bf} (h:zz G (rs.take j)) (aH:rs[j]?=some r) (aa:nB (rs.take j) r.ag=none):zz (yK G (.string r.ag) (.int .i64 (j:Nat))) (rs.take (j+1)):=fun dw=>by
 rw[aan aH dw];by_cases e:r.ag=dw
 ·subst e;rw[Iu,aa];simp
 ·rw[It _ _ (aaT (Ne.symm e)),h dw]
  cases I:nB (rs.take j) dw with
  |some s=>rfl
  |none=>simp only;rw[if_neg e]
def wF (dI:World) (b:Nat) (s:bP) (v:Value) (w:World):Prop:=∃bo b6 bA ey mi G,v= .agg #[s.ag,s.ms,bo,b6,bA,.map (some ey)]∧iH dI (.agg #[s.ag,s.ms,bo,b6,bA]) s∧(gb 9 ey mi G w∧zz G s.rs)∧ey≠b
def tE (dI:World) (b:Nat) (F:Value→Option Value) (l:List bP) (w:World):Prop:=∀ag:ByteArray,match oG l ag with
 |none=>F (.string ag)=none
 |some s=>∃u,F (.string ag)=some u∧wF dI b s u w
theorem wF.kept {dI w w':World} {b:Nat} {s:bP} {v:Value} (h:wF dI b s v w) (aa:Kept w w'):wF dI b s v w':=by
 obtain⟨bo,b6,bA,ey,mi,G,e,I,⟨U,ae⟩,aJ⟩:=h;exact⟨bo,b6,bA,ey,mi,G,e,I,⟨U.kept aa,ae⟩,aJ⟩
theorem wF.grown {dI w w':World} {b:Nat} {s:bP} {v:Value} (h:wF dI b s v w) (aa:w.grownBy w' (some b)):wF dI b s v w':=by
 obtain⟨bo,b6,bA,ey,mi,G,e,I,⟨U,ae⟩,aJ⟩:=h;exact⟨bo,b6,bA,ey,mi,G,e,I,⟨U.grown aa (by simp;exact aJ),ae⟩,aJ⟩
theorem tE.map {dI w w':World} {b:Nat} {F:Value→Option Value} {l:List bP} (h:tE dI b F l w) (ax:∀s v,wF dI b s v w→wF dI b s v w'):tE dI b F l w':=fun ag=>by
 have:=h ag
 cases I:oG l ag with
 |none=>rw[I]at this;exact this
 |some s=>
  rw[I]at this;obtain⟨u,U,ae⟩:=this;exact⟨u,U,ax _ _ ae⟩
theorem tE.skip {dI w:World} {b i:Nat} {F:Value→Option Value} {l:List bP} {x:bP} (h:tE dI b F (l.take i) w) (af:l[i]?=some x) {s:bP} (ax:oG (l.take i) x.ag=some s):tE dI b F (l.take (i+1)) w:=fun ag=>by
 have I:=h ag;have U:=aax af ag
 cases ae:oG (l.take i) ag with
 |some t=>rw[ae]at I U;rw[U];exact I
 |none=>
  rw[ae]at I U;by_cases e:x.ag=ag
  ·rw[e,ae]at ax;cases ax
  ·simp only at U;rw[if_neg e]at U;rw[U];exact I
theorem tE.put {dI w:World} {b i:Nat} {F:Value→Option Value} {l:List bP} {x:bP} {u:Value} (h:tE dI b F (l.take i) w) (af:l[i]?=some x) (ax:oG (l.take i) x.ag=none) (hu:wF dI b x u w):tE dI b (yK F (.string x.ag) u) (l.take (i+1)) w:=fun ag=>by
 have I:=h ag;have U:=aax af ag;by_cases e:x.ag=ag
 ·subst e;rw[ax]at U;simp only[if_true]at U;rw[U];exact⟨u,Iu _ _ _,hu⟩
 ·rw[It _ _ (aaT (Ne.symm e))]
  cases ae:oG (l.take i) ag with
  |some t=>rw[ae]at I U;rw[U];exact I
  |none=>rw[ae]at I U;simp only at U;rw[if_neg e]at U;rw[U];exact I
theorem tE.ixR {dI w:World} {b n:Nat} {F:Value→Option Value} {l:List bP} (h:tE dI b F l w) (br:gb 9 b n F w) (aa:Kept dI w):zr w (.map (some b)) l:=by
 refine⟨b,n,F,rfl,br,fun ag=> ?_⟩;have I:=h ag
 cases U:oG l ag with
 |none=>rw[U]at I;exact I
 |some s=>
  rw[U]at I;obtain⟨u,ae,bo,b6,bA,ey,mi,G,e,aJ,⟨bp,eJ⟩,-⟩:=I;exact⟨u,ae,bo,b6,bA,ey,mi,G,e,aJ.kept aa,bp,eJ⟩
def Rp (l:List bP) (w:World) (e:Ending) (w':World):Prop:=∃v,e= .returned v∧zr w' v l∧Kept w w'
end Go.Proofs.YtobpgndkciofhaaGreatDoor
