import Derived.Test.YtobpgndkciofhaaGreatDoorC
import Derived.StillTail
set_option linter.all false
namespace Go.Proofs.YtobpgndkciofhaaGreatDoor
open Go.RowKit
inductive F7 (S:List Nat):Nat→Nat→Prop
 |zero {i:Nat} (h:S[i]?=some 0):F7 S i 0
 |succ {i s h:Nat} (ax:S[i]?=some (s+1)) (bb:F7 S s h):F7 S i (h+1)
def JD (S:List Nat) (q:Nat) (a:Int):Prop:=
 (∃h,F7 S q h∧h≤11)∧
 ((a=0∧S[q]?=some q)∨
  (a=1∧1≤q∧∃s,S[q-1]?=some s∧S[q]?=some s)∨
  (a=2∧1≤q∧∃s1 s,S[q-1]?=some (s1+1)∧S[s1]?=some s∧S[q]?=some s)∨
  (a=3∧1≤q∧∃s2 s1 s,S[q-1]?=some (s2+1)∧S[s2]?=some (s1+1)∧S[s1]?=some s∧S[q]?=some s))
def l6 (bs:List Nat) (i j:Nat):Nat:=(bs[j+1]?.getD i)-1
structure zB (i:Nat) (bs di:List Nat):Prop where
 len:di.length=i
 pos:bs.length=0→i=0
 head:∀s:Nat,bs[0]?=some s→s=0
 inc:∀j s t:Nat,bs[j]?=some s→bs[j+1]?=some t→s<t
 top:∀s:Nat,bs[bs.length-1]?=some s→s<i
 low:∀j s:Nat,bs[j]?=some s→s<i
 ends:∀j s:Nat,bs[j]?=some s→di[l6 bs i j]?=some s
theorem Mo {i:Nat} {bs di:List Nat} (h:zB i bs di) {j s:Nat} (ax:bs[j+1]?=some s):1≤s:=by
 have aB:j<bs.length:=by have:=(b8 ax).1;omega
 have:=h.inc j _ s (a8 aB) ax;omega
theorem ajf {i:Nat} {bs di:List Nat} (h:zB i bs di) {j s:Nat} (ax:bs[j]?=some s):l6 bs i j<i:=by
 have:=(b8 (h.ends j s ax)).1;rw[h.len]at this;exact this
theorem ajg {i:Nat} {bs di S:List Nat} (h:zB i bs di) (bj:∀q s:Nat,di[q]?=some s→S[q]?=some s):∀j s:Nat,bs[j]?=some s→F7 S (l6 bs i j) j:=by
 intro j;induction j with
 |zero=>
  intro s ax;have e:=bj _ _ (h.ends 0 s ax);rw[h.head s ax]at e;exact .zero e
 |succ j bH=>
  intro s ax;have e:=bj _ _ (h.ends (j+1) s ax);have hp:=Mo h ax;have aB:j<bs.length:=by have:=(b8 ax).1;omega
  have bb:=bH _ (a8 aB);have he:l6 bs i j=s-1:=by unfold l6;rw[ax];rfl
  rw[he]at bb;exact .succ (by rw[e];congr 1;omega) bb
theorem Sa {l:List Nat} {m x:Nat} (hm:m≤l.length):(l.take m++[x])[m]?=some x:=by
 rw[List.getElem?_append_right (by rw[List.length_take];omega),List.length_take,Nat.min_eq_left hm,Nat.sub_self];rfl
theorem aaZ {l:List Nat} {m x j:Nat} (hm:m≤l.length) (aB:j<m):(l.take m++[x])[j]?=l[j]?:=by
 rw[List.getElem?_append_left (by rw[List.length_take];omega),List.getElem?_take_of_lt aB]
theorem IF {l:List Nat} {m x:Nat} (hm:m≤l.length):(l.take m++[x]).length=m+1:=by
 rw[List.length_append,List.length_take,Nat.min_eq_left hm];rfl
theorem aaO {i a m:Nat} {bs di:List Nat} (h:zB i bs di) (hm:m+a=bs.length):zB (i+1) (bs.take m++[kA i a bs]) (di++[kA i a bs]):=by
 have gR:m≤bs.length:=by omega
 have bO:kA i a bs=(bs[m]?.getD i):=by
  unfold kA;by_cases aZ:a=0
  ·rw[if_pos aZ,List.getElem?_eq_none (by omega)];rfl
  ·rw[if_neg aZ,show bs.length-a=m by omega,a8 (by omega)];rfl
 have oy:kA i a bs≤i:=by
  rw[bO];by_cases aD:m<bs.length
  ·rw[a8 aD,Option.getD_some];have:=h.low m _ (a8 aD);omega
  ·rw[List.getElem?_eq_none (by omega)];exact Nat.le_refl _
 have vz:∀j s,(bs.take m++[kA i a bs])[j]?=some s→(j<m∧bs[j]?=some s)∨(j=m∧s=kA i a bs):=by
  intro j s ax;have aB:=(b8 ax).1;rw[IF gR]at aB;rcases Nat.lt_or_ge j m with aq|aq
  ·rw[aaZ gR aq]at ax;exact .inl ⟨aq,ax⟩
  ·obtain rfl:j=m:=by omega
   rw[Sa gR]at ax;exact .inr ⟨rfl,(Option.some.inj ax).symm⟩
 refine⟨by rw[List.length_append,h.len];rfl,fun aj=>by rw[IF gR]at aj;omega,fun s ax=> ?_,fun j s t ax bS=> ?_,fun s ax=> ?_,fun j s ax=> ?_,fun j s ax=> ?_⟩
 ·rcases vz 0 s ax with⟨_,ax⟩|⟨rfl,rfl⟩
  ·exact h.head s ax
  ·rw[bO];by_cases aD:0<bs.length
   ·rw[a8 aD,Option.getD_some];exact h.head _ (a8 aD)
   ·have:=h.pos (by omega);rw[List.getElem?_eq_none (by omega),this];rfl
 ·rcases vz (j+1) t bS with⟨aq,bS⟩|⟨he,rfl⟩
  ·rcases vz j s ax with⟨_,ax⟩|⟨he,_⟩
   ·exact h.inc j s t ax bS
   ·omega
  ·rcases vz j s ax with⟨_,ax⟩|⟨K2,_⟩
   ·rw[bO,←he];by_cases aD:j+1<bs.length
    ·rw[a8 aD,Option.getD_some];exact h.inc j s _ ax (a8 aD)
    ·rw[List.getElem?_eq_none (by omega)];exact h.low j s ax
   ·omega
 ·rcases vz _ s ax with⟨_,ax⟩|⟨_,rfl⟩
  ·have:=h.low _ s ax;omega
  ·omega
 ·rcases vz _ s ax with⟨_,ax⟩|⟨_,rfl⟩
  ·have:=h.low _ s ax;omega
  ·omega
 ·rcases vz j s ax with⟨aq,ax⟩|⟨rfl,rfl⟩
  ·have he:l6 (bs.take m++[kA i a bs]) (i+1) j=l6 bs i j:=by
    unfold l6;by_cases Xx:j+1<m
    ·rw[aaZ gR Xx,a8 (show j+1<bs.length by omega)];rfl
    ·have hj1:j+1=m:=by omega
     rw[hj1,Sa gR,Option.getD_some,bO]
   rw[he,List.getElem?_append_left (by rw[h.len];exact ajf h ax)];exact h.ends j s ax
  ·have he:l6 (bs.take j++[kA i a bs]) (i+1) j=i:=by
    unfold l6;rw[List.getElem?_eq_none (by rw[IF gR];omega)];simp
   rw[he,List.getElem?_append_right (by rw[h.len];exact Nat.le_refl _),h.len,Nat.sub_self];rfl
theorem ahr {i m:Nat} {a:Int} {bs di S:List Nat} (h:zB i bs di) (hm:m+a.toNat=bs.length) (aj:0≤a) (ae:a≤3) (KD:m+1≤12)
  (bj:∀q s:Nat,(di++[kA i a.toNat bs])[q]?=some s→S[q]?=some s):JD S i a:=by
 have aA:=aaO (a:=a.toNat) h hm;have gR:m≤bs.length:=by omega
 have w6:=ajg aA bj m _ (Sa gR);have he:l6 (bs.take m++[kA i a.toNat bs]) (i+1) m=i:=by
  unfold l6;rw[List.getElem?_eq_none (by rw[IF gR];omega)];simp
 rw[he]at w6;have au:S[i]?=some (kA i a.toNat bs):=bj i _ (by rw[List.getElem?_append_right (by rw[h.len];exact Nat.le_refl _),h.len,Nat.sub_self];rfl);have tW:∀q s:Nat,di[q]?=some s→S[q]?=some s:=fun q s ax=>bj q s (by rw[List.getElem?_append_left (b8 ax).1];exact ax);have Ej:∀j (aB:j<bs.length),S[l6 bs i j]?=some (bs[j]'aB):=fun j aB=>tW _ _ (h.ends j _ (a8 aB));have P7:1≤a→1≤i:=fun aZ=>by
  have:=h.low 0 _ (a8 (show 0<bs.length by omega));omega
 have Qx:∀(_:0<bs.length),l6 bs i (bs.length-1)=i-1:=fun hp=>by
  unfold l6;rw[List.getElem?_eq_none (by omega)];rfl
 have Qj:∀j (aB:j+1<bs.length),l6 bs i j=bs[j+1]'aB-1:=fun j aB=>by
  unfold l6;rw[a8 aB];rfl
 have w5:∀(aZ:1≤a.toNat),kA i a.toNat bs=bs[m]'(by omega):=fun aZ=>by
  unfold kA;rw[if_neg (by omega),show bs.length-a.toNat=m by omega,a8 (by omega)];rfl
 refine⟨⟨m,w6,by omega⟩,?_⟩;rcases (show a=0∨a=1∨a=2∨a=3 by omega)with rfl|rfl|rfl|rfl
 ·exact .inl ⟨rfl,au⟩
 ·refine .inr (.inl ⟨rfl,P7 (by omega),bs[m]'(by omega),?_,?_⟩)
  ·have:=Ej m (by omega);rwa [show l6 bs i m=i-1 by rw[show m=bs.length-1 by omega,Qx (by omega)]]at this
  ·rw[au,w5 (by decide)]
 ·refine .inr (.inr (.inl ⟨rfl,P7 (by omega),bs[m+1]'(by omega)-1,bs[m]'(by omega),?_,?_,?_⟩))
  ·have I:=Mo h (a8 (show m+1<bs.length by omega));have:=Ej (m+1) (by omega);rw[show l6 bs i (m+1)=i-1 by rw[show m+1=bs.length-1 by omega,Qx (by omega)]]at this;rw[this];congr 1;omega
  ·have:=Ej m (by omega);rwa [Qj m (by omega)]at this
  ·rw[au,w5 (by decide)]
 ·refine .inr (.inr (.inr ⟨rfl,P7 (by omega),bs[m+2]'(by omega)-1,bs[m+1]'(by omega)-1,bs[m]'(by omega),?_,?_,?_,?_⟩))
  ·have I:=Mo h (a8 (show m+1+1<bs.length by omega));have:=Ej (m+2) (by omega);rw[show l6 bs i (m+2)=i-1 by rw[show m+2=bs.length-1 by omega,Qx (by omega)]]at this;rw[this];congr 1;change 1≤bs[m+2]at I;omega
  ·have I:=Mo h (a8 (show m+1<bs.length by omega));have:=Ej (m+1) (by omega);rw[Qj (m+1) (by omega)]at this;change S[bs[m+2]-1]?=_ at this;rw[this];congr 1;omega
  ·have:=Ej m (by omega);rwa [Qj m (by omega)]at this
  ·rw[au,w5 (by decide)]
theorem aaQ:∀(r:List cz) (i:Nat) (bs di S:List Nat),zB i bs di→jS r i bs di=(S,0,0)→
  (∃t,S=di++t∧t.length=r.length)∧(∀j x,r[j]?=some x→0≤dY x.o∧JD S (i+j) (dY x.o))∧(0<i+r.length→S[i+r.length-1]?=some 0)
 |[],i,bs,di,S,h,aH=>by
  rw[jS]at aH;split at aH
  ·exact absurd (show (4:Int)=0 from congrArg (fun p:List Nat×Nat×Int=>p.2.2) aH) (by decide)
  ·rename_i aq;obtain rfl:di=S:=congrArg Prod.fst aH;refine⟨⟨[],by simp,rfl⟩,fun j x af=>by simp at af,fun hp=> ?_⟩;simp only[List.length_nil,Nat.add_zero]at hp⊢;have ax:bs.length=1:=by
    rcases Nat.eq_zero_or_pos bs.length with aj|aj
    ·have:=h.pos aj;omega
    ·omega
   have he:=h.ends 0 _ (a8 (show 0<bs.length by omega));rw[h.head _ (a8 (show 0<bs.length by omega))]at he;have a6:l6 bs i 0=i-1:=by
    unfold l6;rw[List.getElem?_eq_none (by omega)];rfl
   rwa [a6]at he
 |x::r,i,bs,di,S,h,aH=>by
  rw[jS]at aH;split at aH
  ·exact absurd (show (2:Int)=0 from congrArg (fun p:List Nat×Nat×Int=>p.2.2) aH) (by decide)
  ·rename_i aj;split at aH
   ·exact absurd (show (5:Int)=0 from congrArg (fun p:List Nat×Nat×Int=>p.2.2) aH) (by decide)
   ·rename_i I;split at aH
    ·exact absurd (show (16:Int)=0 from congrArg (fun p:List Nat×Nat×Int=>p.2.2) aH) (by decide)
    ·rename_i U;have J:=zI x.o;have hm:(bs.length-(dY x.o).toNat)+(dY x.o).toNat=bs.length:=by omega
     have aA:=aaO (a:=(dY x.o).toNat) h hm;obtain⟨⟨t,bS,sV⟩,ht,Qa⟩:=aaQ r (i+1) _ _ S aA aH;rw[IF (by omega)]at U;have afg:∀q s:Nat,(di++[kA i (dY x.o).toNat bs])[q]?=some s→S[q]?=some s:=fun q s ax=>by
      rw[bS,List.getElem?_append_left (b8 ax).1];exact ax
     refine⟨⟨kA i (dY x.o).toNat bs::t,by rw[bS];simp,by simp[sV]⟩,fun j y db=> ?_,fun _=> ?_⟩
     ·match j,db with
      |0,db=>
       obtain rfl:x=y:=Option.some.inj db;exact⟨by omega,ahr h hm (by omega) J.2 (by omega) afg⟩
      |j+1,db=>
       have:=ht j y (by simpa using db);rw[show i+1+j=i+(j+1) by omega]at this;exact this
     ·have:=Qa (by omega);rw[List.length_cons,show i+(r.length+1)-1=i+1+r.length-1 by omega];exact this
theorem IE {e:List cz} (h:(cF e).2.2=0):0<e.length∧e.length≤48∧(cF e).1.length=e.length∧(∀j x,e[j]?=some x→0≤dY x.o∧JD (cF e).1 j (dY x.o))∧(cF e).1[e.length-1]?=some 0:=by
 unfold cF at h⊢;split at h
 ·exact absurd h (by decide)
 ·rename_i zU;split at h
  ·exact absurd h (by decide)
  ·rename_i aj;rw[if_neg zU,if_neg aj];have I:(jS e 0 [] []).2.1=0:=by
    have key:∀(r:List cz) (i:Nat) (bs di:List Nat),(jS r i bs di).2.2=0→(jS r i bs di).2.1=0:=by
     intro r;induction r with
     |nil=>
      intro i bs di bb;rw[jS]at bb⊢;split at bb
      ·exact absurd (show (4:Int)=0 from bb) (by decide)
      ·rename_i ah;rw[if_neg ah]
     |cons x r bH=>
      intro i bs di bb;rw[jS]at bb⊢;split at bb
      ·exact absurd (show (2:Int)=0 from bb) (by decide)
      ·rename_i aC;split at bb
       ·exact absurd (show (5:Int)=0 from bb) (by decide)
       ·rename_i aM;split at bb
        ·exact absurd (show (16:Int)=0 from bb) (by decide)
        ·rename_i a1;rw[if_neg aC,if_neg aM,if_neg a1];exact bH _ _ _ bb
    exact key _ _ _ _ h
   have df:zB 0 [] []:=⟨rfl,fun _=>rfl,fun s ax=>by simp at ax,fun j s t ax=>by simp at ax,fun s ax=>by simp at ax,fun j s ax=>by simp at ax,fun j s ax=>by simp at ax⟩;obtain⟨⟨t,bS,sV⟩,ht,Qa⟩:=aaQ e 0 [] [] (jS e 0 [] []).1 df (Prod.ext rfl (Prod.ext I h));rw[List.nil_append]at bS;refine⟨by omega,by omega,by rw[bS,sV],fun j x af=> ?_,?_⟩
   ·have:=ht j x af;rwa [Nat.zero_add]at this
   ·have:=Qa (by omega);rwa [Nat.zero_add]at this
section
variable {P:Program} {ops:Array Oper} {md:Region.Mode} {C:World→Prop}
def IP (P:Program) (md:Region.Mode) (ops:Array Oper) (C:World→Prop) (n:Nat) (T:Array Bool→Act→Prop):Nat→Array Bool→Act→Prop
 |0,listed,a=>T listed a
 |f+1,listed,a=>Region.ready md ops listed≠[]∧∀i∈Region.ready md ops listed,i<n∧qOp P ops C i (IP P md ops C n T f (listed.setIfInBounds i true)) a
theorem abk {n g:Nat} {T:Array Bool→Act→Prop} {Q':Exit→Act→World→Prop} (bl:∀listed a w,C w→T listed a→wpAny P md ops Q' g listed a w):
  ∀(f:Nat) (listed:Array Bool) (a:Act) (w:World),C w→IP P md ops C n T f listed a→wpAny P md ops Q' (f+g) listed a w
 |0,listed,a,w,hw,h=>by rw[Nat.zero_add];exact bl _ _ _ hw h
 |f+1,listed,a,w,hw,h=>by
  rw[show f+1+g=(f+g)+1 by omega];exact⟨fun aj=>absurd aj h.1,fun i aE=>wpOp_of_qOp hw (fun d' w' pW dp=>abk bl f _ d' w' pW dp) (h.2 i aE).2⟩
theorem akx {n i:Nat} {k5:Oper} {v:Value} {T:Array Bool→Act→Prop} (aE:ops[i]?=some k5) (rS:∀(j:Nat) (o:Oper) cs b,ops[j]?=some o→o.op≠ .select cs b)
  (ax:Region.sinkB md ops n=true) (ah:Region.chainB md ops n=true) (aA:n<ops.size) (de:i<n) (j7:∀listed a,T listed a→∀j∈Region.ready md ops listed,n≤j):
  ∀(f:Nat) (listed:Array Bool) (a:Act),HeadInv md ops n listed→
   (∀j k6,ops[j]?=some k6→j≠i→listed.getD j true=false→(∀e∈k6.after,Region.binds md e=true→e.on≠i)→k5.apart ops k6=true)→
   i∈Region.ready md ops listed→YieldsIn P ops C k5 v a→
   IP P md ops C n T f (listed.setIfInBounds i true) (a.put k5.dst v)→IP P md ops C n T (f+1) listed a:=by
 intro f;induction f with
 |zero=>
  intro listed a inv _ aH db H;have qM:=(mem_ready.1 aH).1;refine⟨fun h=>(by rw[h]at aH;cases aH),fun j aB=> ?_⟩;have tZ:j<n:=by
   rcases Nat.lt_or_ge j n with h|h
   ·exact h
   ·exact absurd aB (tail_waits ax ah aA inv _ i rfl de qM j h)
  refine⟨tZ,?_⟩;by_cases gu:j=i
  ·subst gu;exact db.qOp aE H
  ·have:=j7 _ _ H j (ready_mono aB gu);omega
 |succ f bH=>
  intro listed a inv Hq aH db H;have qM:=(mem_ready.1 aH).1;refine⟨fun h=>(by rw[h]at aH;cases aH),fun j aB=> ?_⟩;have tZ:j<n:=by
   rcases Nat.lt_or_ge j n with h|h
   ·exact h
   ·exact absurd aB (tail_waits ax ah aA inv _ i rfl de qM j h)
  refine⟨tZ,?_⟩;by_cases gu:j=i
  ·subst gu;exact db.qOp aE H
  ·have I:=(H.2 j (ready_mono aB gu)).2;obtain⟨Hz,k6,Cg,ht⟩:=mem_ready.1 aB;have Cd:∀e∈k6.after,Region.binds md e=true→e.on≠i:=fun e he J heq=>by
    have I:=ht e he J;rw[heq,getD_both qM]at I
    cases I
   have U:=qOp_put Cg (Hq j k6 Cg gu Hz Cd) (fun cs b=>rS i k5 cs b aE) (fun cs b=>rS j k6 cs b Cg) db I;have P1:∀k ok,ops[k]?=some ok→k≠i→(listed.setIfInBounds j true).getD k true=false→
     (∀e∈ok.after,Region.binds md e=true→e.on≠i)→k5.apart ops ok=true:=fun k ok aa jI qM gD=>by
    refine Hq k ok aa jI ?_ gD;by_cases Em:j=k
    ·subst Em;exact Hz
    ·rw[getD_set_ne true Em]at qM;exact qM
   refine qOp_mono (fun d' ae=>bH (listed.setIfInBounds j true) d' (inv.set aB tZ) P1 (ready_mono aH (Ne.symm gu)) ae.1 ?_) U;rw[Array.setIfInBounds_comm _ _ gu];exact ae.2
theorem abj {n g:Nat} {N7:Act→Prop} (rS:Region.noSelect ops=true) (ax:Region.sinkB md ops n=true) (ah:Region.chainB md ops n=true) (aA:n<ops.size):
  ∀(l:List Oper) (k:Nat) (listed:Array Bool) (a:Act),(∀j,j<l.length→l[j]?=ops[k+j]?)→k+l.length=n→HeadInv md ops n listed→
  Region.lexHead md ops g l.length k listed=true→wpQuiet P ops C N7 l a→
  IP P md ops C n (fun Za d'=>Region.seqB md ops g n Za=true∧N7 d') l.length listed a
 |[],k,listed,a,_,aa,_,aU,h=>by
  have:k=n:=by simpa using aa
  subst this;exact⟨by simpa[Region.lexHead] using aU,h⟩
 |o::l,k,listed,a,aq,aa,inv,aU,h=>by
  have aj:ops[k]?=some o:=by simpa using (aq 0 (by simp)).symm
  simp only[List.length_cons,Region.lexHead,Bool.and_eq_true]at aU;obtain⟨⟨aH,bO⟩,GY⟩:=aU;have j8:k<n:=by simp only[List.length_cons]at aa;omega
  have uc:k∈Region.ready md ops listed:=by simpa using aH
  have df:qOp P ops C k (wpQuiet P ops C N7 l) a:=by unfold qOp;simp only[aj];exact h
  obtain⟨v,db,ab⟩:=yieldsIn_of_qOp aj df;exact akx aj (Region.noSelect_spec rS) ax ah aA j8 (fun Za d' bL=>seqB_ready bL.1) l.length listed a inv (Region.free_spec aj bO) uc db
   (abj rS ax ah aA l (k+1) _ _ (fun j aB=>by have:=aq (j+1) (by simp;omega);simpa[Nat.add_assoc,Nat.add_comm 1 j] using this) (by simp only[List.length_cons]at aa;omega) (inv.set uc j8) GY ab)
theorem akz {id:Nat} {Q:Exit→Act→World→Prop} {a:Act} {w:World} {l:List Oper} (n:Nat) (hm:P.follows .mixedOrders=true) (aU:Region.lexTailB .any l.toArray n=true) (hC:C {w with drawn:=w.drawn+1})
  (h:wpQuiet P l.toArray C (fun d'=>∀w',C w'→wpList P l.toArray Q (l.drop n) d' w') (l.take n) a):(Code.region id l.toArray true).wp P Q a w:=by
 simp only[Region.lexTailB,Bool.and_eq_true,decide_eq_true_eq]at aU;obtain⟨⟨⟨⟨rS,aA⟩,ax⟩,ah⟩,ae6⟩:=aU;have XJ:n<l.length:=by simpa using aA
 have sV:(l.take n).length=n:=by simp;omega
 have np:(l.drop n).length=l.toArray.size-n:=by simp
 have af4:HeadInv .any l.toArray n (Array.replicate l.toArray.size false):=
  ⟨by simp,fun j k6 _ aq=>(by rw[getD_replicate_false]at aq;cases aq),fun t _ bS=>getD_in (by simpa using bS) (getD_replicate_false _ _)⟩
 have H:=abj (md:= .any) (g:=l.toArray.size-n) rS ax ah aA (l.take n) 0 _ a (fun j aB=>by
  have sQ:j<n:=by rw[sV]at aB;exact aB
  simp[sQ]) (by simpa using sV) af4 (by rw[sV];exact ae6) h
 refine wp_region_any hm ?_;have:=abk (Q':=Q) (g:=l.toArray.size-n) (fun listed d' w' pW bL=>by
  have:=wpAny_of_seq (md:= .any) (Q':=Q) (l.drop n) n listed d' w' (fun j=>by simp[List.getElem?_drop]) (by rw[np];exact bL.1) (bL.2 w' pW);rwa [np]at this) _ _ _ _ hC H
 rw[sV,show n+(l.toArray.size-n)=l.toArray.size by omega]at this;exact this
end
theorem v8 {P:Program} {id:Nat} {Q:Exit→Act→World→Prop} {a:Act} {w:World} {l:List Oper} (n:Nat) (hm:P.follows .mixedOrders=true) (aU:Region.lexTailB .any l.toArray n=true)
  (h:wpQuiet P l.toArray (fun w'=>∃x:al w,w'=x.W) (fun d'=>∀w',(∃x:al w,w'=x.W)→wpList P l.toArray Q (l.drop n) d' w') (l.take n) a):(Code.region id l.toArray true).wp P Q a w:=
 akz (C:=fun w'=>∃x:al w,w'=x.W) n hm aU ⟨⟨w.drew,(aQ w).drew⟩,rfl⟩ h
def c4 (l:List Int) (i:Nat):Int:=l[i]?.getD 0
def mO (l:List Int) (i j:Nat):List Int:=(l.set i (c4 l j)).set j (c4 l i)
def uD:Nat→List Int→Nat→List Int
 |0,l,_=>l
 |F+1,l,j=>if (j-1)/2=j∨¬c4 l j<c4 l ((j-1)/2)then l else uD F (mO l ((j-1)/2) j) ((j-1)/2)
def tP (l:List Int) (i n:Nat):Nat:=if 2*i+2<n∧c4 l (2*i+2)<c4 l (2*i+1)then 2*i+2 else 2*i+1
def rC:Nat→List Int→Nat→Nat→List Int
 |0,l,_,_=>l
 |F+1,l,i,n=>if n≤2*i+1∨¬c4 l (tP l i n)<c4 l i then l else rC F (mO l i (tP l i n)) (tP l i n) n
def vT (l:List Int) (x:Int):List Int:=uD (l.length+1) (l++[x]) l.length
def uw (l:List Int):List Int:=rC l.length (mO l 0 (l.length-1)) 0 (l.length-1)
def qV (l:List Int):Int:=c4 (uw l) (l.length-1)
def r6 (l:List Int):List Int:=(uw l).take (l.length-1)
theorem oI (l:List Int) (i j:Nat):(mO l i j).length=l.length:=by unfold mO;rw[List.length_set,List.length_set]
theorem R9 {l:List Int} {i j:Nat} (aE:i<l.length) (aB:j<l.length):(mO l i j).Perm l:=by
 unfold mO c4;rw[a8 aE,a8 aB,Option.getD_some,Option.getD_some];exact List.set_set_perm aE aB
theorem akg:∀(F:Nat) (l:List Int) (j:Nat),(uD F l j).length=l.length:=by
 intro F;induction F with
 |zero=>intro l j;rfl
 |succ F bH=>
  intro l j;unfold uD;split
  ·rfl
  ·rw[bH,oI]
theorem akh:∀(F:Nat) (l:List Int) (j:Nat),j<l.length→(uD F l j).Perm l:=by
 intro F;induction F with
 |zero=>intro l j _;exact List.Perm.refl _
 |succ F bH=>
  intro l j aB;unfold uD;split
  ·exact List.Perm.refl _
  ·exact (bH _ _ (by rw[oI];omega)).trans (R9 (by omega) aB)
theorem ac7 {l:List Int} {i n:Nat} (h:¬n≤2*i+1):tP l i n<n∧i<tP l i n:=by
 unfold tP;split<;>omega
theorem aeb:∀(F:Nat) (l:List Int) (i n:Nat),(rC F l i n).length=l.length:=by
 intro F;induction F with
 |zero=>intro l i n;rfl
 |succ F bH=>
  intro l i n;unfold rC;split
  ·rfl
  ·rw[bH,oI]
theorem aec:∀(F:Nat) (l:List Int) (i n:Nat),n≤l.length→(rC F l i n).Perm l:=by
 intro F;induction F with
 |zero=>intro l i n _;exact List.Perm.refl _
 |succ F bH=>
  intro l i n aA;unfold rC;split
  ·exact List.Perm.refl _
  ·rename_i h;have ah:=ac7 (l:=l) (i:=i) (n:=n) (fun dp=>h (.inl dp));exact (bH _ _ _ (by rw[oI];exact aA)).trans (R9 (by omega) (by omega))
theorem L4 (l:List Int) (x:Int):(vT l x).Perm (x::l):=
 (akh _ _ _ (by simp)).trans (List.perm_append_singleton x l)
theorem aac (l:List Int) (x:Int):(vT l x).length=l.length+1:=by rw[(L4 l x).length_eq];rfl
theorem E_ (l:List Int):(uw l).length=l.length:=by unfold uw;rw[aeb,oI]
theorem ahR (l:List Int):(r6 l).length=l.length-1:=by unfold r6;rw[List.length_take,E_];omega
theorem Z' {l:List Int} (h:0<l.length):l.Perm (qV l::r6 l):=by
 have I:(uw l).Perm l:=(aec _ _ _ _ (by rw[oI];omega)).trans (R9 h (by omega));refine I.symm.trans ?_;have aq:=E_ l;have U:uw l=r6 l++[qV l]:=by
  apply List.ext_getElem?;intro k;unfold r6 qV c4;rcases Nat.lt_trichotomy k (l.length-1)with aa|aa|aa
  ·rw[List.getElem?_append_left (by rw[List.length_take];omega),List.getElem?_take_of_lt aa]
  ·subst aa;rw[List.getElem?_append_right (by rw[List.length_take];omega),List.length_take,aq,Nat.min_eq_left (by omega),Nat.sub_self,a8 (by omega)];rfl
  ·rw[List.getElem?_eq_none (by omega),List.getElem?_eq_none (by rw[List.length_append,List.length_take,List.length_singleton];omega)]
 rw[U];exact List.perm_append_singleton _ _
theorem vQ:∀(n:Nat) (l:List Int),l.Nodup→gU n l→l.length≤n:=by
 intro n;induction n with
 |zero=>
  intro l _ h
  cases l with
  |nil=>exact Nat.le_refl _
  |cons a l=>have:=h a (List.mem_cons_self ..);omega
 |succ n bH=>
  intro l aA h;have I:=bH (l.erase (n:Int)) (aA.erase _) (fun e he=>by
   obtain⟨U,ae⟩:=aA.mem_erase_iff.1 he;have:=h e ae;omega)
  by_cases hm:(n:Int)∈l
  ·rw[List.length_erase_of_mem hm]at I;omega
  ·rw[List.erase_of_not_mem hm]at I;omega
def sC (d:Int):List Int→List (List Int)→List (List Int)
 |[],us=>us
 |e::es,us=>sC d es (us.set e.toNat ((us[e.toNat]?.getD [])++[d]))
def yU:List (List Int)→Nat→List (List Int)→List (List Int)
 |[],_,us=>us
 |l::ls,d,us=>yU ls (d+1) (sC d l us)
def r8:List (List Int)→Nat→List Int→List Int
 |[],_,rd=>rd
 |l::ls,d,rd=>r8 ls (d+1) (if l.length=0 then vT rd d else rd)
def n6:List Int→List Int→List Int→List Int×List Int
 |[],wt,rd=>(wt,rd)
 |u::us,wt,rd=>n6 us (wt.set u.toNat (c4 wt u.toNat-1)) (if c4 wt u.toNat-1=0 then vT rd u else rd)
def Cw (us:List (List Int)):Nat→List Int→List Int→List Int→List Int
 |0,_,_,o=>o
 |F+1,wt,rd,o=>if rd.length=0 then o else Cw us F (n6 (us[(qV rd).toNat]?.getD []) wt (r6 rd)).1 (n6 (us[(qV rd).toNat]?.getD []) wt (r6 rd)).2 (o++[qV rd])
def sa (bF:List (List Int)):List (List Int):=yU bF 0 (List.replicate bF.length [])
def xx (bF:List (List Int)):List Int:=bF.map fun l=>(l.length:Int)
def o' (bF:List (List Int)):List Int:=Cw (sa bF) (bF.length+1) (xx bF) (r8 bF 0 []) []
theorem acf (d:Int):∀(es:List Int) (us:List (List Int)),(sC d es us).length=us.length:=by
 intro es;induction es with
 |nil=>intro us;rfl
 |cons e es bH=>intro us;rw[sC,bH,List.length_set]
theorem ace (d:Int):∀(es:List Int) (us:List (List Int)),es.Nodup→gU us.length es→∀k:Nat,k<us.length→(sC d es us)[k]?.getD []=us[k]?.getD []++(if (k:Int)∈es then [d]else []):=by
 intro es;induction es with
 |nil=>intro us _ _ k _;simp[sC]
 |cons e es bH=>
  intro us aA aw k aa;obtain⟨j9,ke⟩:=List.nodup_cons.1 aA;obtain⟨Xb,Ei⟩:=aw e (List.mem_cons_self ..);rw[sC,bH _ ke (by rw[List.length_set];exact fun x af=>aw x (List.mem_cons_of_mem _ af)) k (by rw[List.length_set];exact aa),List.getElem?_set];by_cases PZ:e.toNat=k
  ·have hke:(k:Int)=e:=by omega
   rw[if_pos PZ,if_pos (by omega),Option.getD_some,hke,if_neg j9,if_pos (List.mem_cons_self ..),List.append_nil,PZ]
  ·rw[if_neg PZ];congr 1;have bQ:(k:Int)≠e:=by omega
   simp[bQ]
theorem aki:∀(ls:List (List Int)) (d n:Nat) (us:List (List Int)),us.length=n→(∀l∈ls,l.Nodup∧gU n l)→∀k:Nat,k<n→(us[k]?.getD []).Nodup→(∀u∈us[k]?.getD [],u<d)→
  ((yU ls d us)[k]?.getD []).Nodup∧∀u:Int,u∈(yU ls d us)[k]?.getD []↔u∈us[k]?.getD []∨((d:Int)≤u∧(k:Int)∈ls[(u-d).toNat]?.getD []):=by
 intro ls;induction ls with
 |nil=>intro d n us _ _ k _ kE _;exact⟨kE,fun u=>by simp[yU]⟩
 |cons l ls bH=>
  intro d n us aq pR k aa kE aD;obtain⟨I,U⟩:=pR l (List.mem_cons_self ..);have eG:=ace (d:Int) l us I (by rw[aq];exact U) k (by omega);obtain⟨g1,g2⟩:=bH (d+1) n (sC d l us) (by rw[acf,aq]) (fun x af=>pR x (List.mem_cons_of_mem _ af)) k aa (by
   rw[eG];split
   ·rw[List.nodup_append];refine⟨kE,by simp,fun a aZ b J=> ?_⟩;rw[List.mem_singleton]at J;have:=aD a aZ;omega
   ·rw[List.append_nil];exact kE) (fun u hu=>by
   rw[eG,List.mem_append]at hu;rcases hu with hu|hu
   ·have:=aD u hu;omega
   ·split at hu
    ·rw[List.mem_singleton]at hu;omega
    ·cases hu)
  rw[yU];refine⟨g1,fun u=> ?_⟩;rw[g2 u,eG,List.mem_append];constructor
  ·rintro ((h|h)|⟨h,dp⟩)
   ·exact .inl h
   ·split at h
    ·rename_i ie;rw[List.mem_singleton]at h;subst h;refine .inr ⟨Int.le_refl _,?_⟩;rw[Int.sub_self];exact ie
    ·cases h
   ·refine .inr ⟨by omega,?_⟩;rw[show (u-(d:Int)).toNat=(u-((d+1:Nat):Int)).toNat+1 by omega,List.getElem?_cons_succ];exact dp
  ·rintro (h|⟨h,dp⟩)
   ·exact .inl (.inl h)
   ·by_cases QB:u=d
    ·subst QB;rw[Int.sub_self]at dp;have ie:(k:Int)∈l:=dp;exact .inl (.inr (by rw[if_pos ie];simp))
    ·rw[show (u-(d:Int)).toNat=(u-((d+1:Nat):Int)).toNat+1 by omega,List.getElem?_cons_succ]at dp;exact .inr ⟨by omega,dp⟩
theorem abd {bF:List (List Int)} {n:Nat} (aA:bF.length=n) (pR:∀l∈bF,l.Nodup∧gU n l) (k:Nat) (aa:k<n):
  ((sa bF)[k]?.getD []).Nodup∧∀u:Int,u∈(sa bF)[k]?.getD []↔0≤u∧(k:Int)∈bF[u.toNat]?.getD []:=by
 have aj:(List.replicate bF.length ([]:List Int))[k]?.getD []=[]:=by rw[List.getElem?_replicate];split<;>rfl
 obtain⟨I,U⟩:=aki bF 0 n (List.replicate bF.length []) (by rw[List.length_replicate,aA]) pR k aa (by rw[aj];exact List.nodup_nil) (by rw[aj];intro u hu;cases hu);refine⟨I,fun u=> ?_⟩;unfold sa;rw[U,aj];simp
theorem D3 {l:List Int} {k:Nat} (h:k<l.length) (x:Int):c4 (l.set k x) k=x:=by unfold c4;rw[List.getElem?_set_self h];rfl
theorem GU {l:List Int} {k j:Nat} (h:k≠j) (x:Int):c4 (l.set k x) j=c4 l j:=by unfold c4;rw[List.getElem?_set_ne h]
theorem ahY:∀(us wt rd:List Int),us.Nodup→gU wt.length us→(n6 us wt rd).1.length=wt.length∧
  (∀u:Int,0≤u→c4 (n6 us wt rd).1 u.toNat=c4 wt u.toNat-if u∈us then 1 else 0)∧(n6 us wt rd).2.Perm (rd++us.filter fun u=>decide (c4 wt u.toNat=1)):=by
 intro us;induction us with
 |nil=>intro wt rd _ _;exact⟨rfl,fun u _=>by simp[n6],by simp[n6]⟩
 |cons a us bH=>
  intro wt rd aA aw;obtain⟨j9,ke⟩:=List.nodup_cons.1 aA;obtain⟨PL,Ef⟩:=aw a (List.mem_cons_self ..);have Aj:∀x∈us,0≤x∧x<wt.length:=fun x af=>aw x (List.mem_cons_of_mem _ af);obtain⟨I,U,ae⟩:=bH (wt.set a.toNat (c4 wt a.toNat-1)) (if c4 wt a.toNat-1=0 then vT rd a else rd) ke (by rw[List.length_set];exact Aj);rw[n6];refine⟨by rw[I,List.length_set],fun u hu=> ?_,ae.trans ?_⟩
  ·rw[U u hu];by_cases Yj:u=a
   ·subst Yj;rw[D3 (by omega),if_neg j9,if_pos (List.mem_cons_self ..),Int.sub_zero]
   ·rw[GU (by omega)];congr 1;simp[Yj]
  ·have bO:us.filter (fun u=>decide (c4 (wt.set a.toNat (c4 wt a.toNat-1)) u.toNat=1))=us.filter (fun u=>decide (c4 wt u.toNat=1)):=by
    refine List.filter_congr fun x af=> ?_;have bQ:x≠a:=fun e=>j9 (e▸af);have:=Aj x af;rw[GU (by omega)]
   rw[bO,List.filter_cons];by_cases hw:c4 wt a.toNat=1
   ·rw[if_pos (by omega),if_pos (by simp[hw])];refine ((L4 rd a).append_right _).trans ?_;exact (List.perm_middle (a:=a) (l₁:=rd) (l₂:=us.filter fun u=>decide (c4 wt u.toNat=1))).symm
   ·rw[if_neg (by omega),if_neg (by simp[hw])]
def x_ (P l:List Int):Nat:=(l.filter fun e=>decide (e∉P)).length
theorem adL {d:Int} {P:List Int} (av:d∉P):∀(l:List Int),l.Nodup→x_ (P++[d]) l+(if d∈l then 1 else 0)=x_ P l:=by
 intro l;unfold x_;induction l with
 |nil=>intro _;rfl
 |cons a l bH=>
  intro aA;obtain⟨j9,ke⟩:=List.nodup_cons.1 aA;have:=bH ke;by_cases He:a=d
  ·subst He;rw[if_neg j9]at this;rw[if_pos (List.mem_cons_self ..),List.filter_cons,List.filter_cons,if_neg (by simp),if_pos (by simp[av]),List.length_cons];omega
  ·have az:(decide (a∉P++[d]))=decide (a∉P):=by simp[He]
   have a6:(d∈a::l)↔d∈l:=by
    rw[List.mem_cons];exact⟨fun h=>h.resolve_left (fun e=>He e.symm),.inr⟩
   rw[List.filter_cons,List.filter_cons,az];simp only[a6];split<;>(try rw[List.length_cons])<;>(try rw[List.length_cons])<;>omega
theorem Vb {P l:List Int}:x_ P l=0↔∀e∈l,e∈P:=by
 unfold x_;rw[List.length_eq_zero_iff,List.filter_eq_nil_iff];exact⟨fun h e he=>by have:=h e he;simpa using this,fun h e he=>by simp[h e he]⟩
structure zt (bF:List (List Int)) (n:Nat) (P wt rd:List Int):Prop where
 c7:(P++rd).Nodup
 inr:gU n (P++rd)
 wl:wt.length=n
 Ke:∀u:Int,0≤u→u<n→c4 wt u.toNat=x_ P (bF[u.toNat]?.getD [])
 zero:∀u:Int,0≤u→u<n→(u∈P++rd↔c4 wt u.toNat=0)
 top:∀(p s:List Int) (d:Int),P=p++d::s→∀e∈bF[d.toNat]?.getD [],e∈p
theorem zt.step {bF:List (List Int)} {n:Nat} {P wt rd:List Int} (h:zt bF n P wt rd) (aA:bF.length=n) (pR:∀l∈bF,l.Nodup∧gU n l) (aH:0<rd.length):
  zt bF n (P++[qV rd]) (n6 ((sa bF)[(qV rd).toNat]?.getD []) wt (r6 rd)).1 (n6 ((sa bF)[(qV rd).toNat]?.getD []) wt (r6 rd)).2:=by
 have hp:=Z' aH;generalize qV rd=d at*;generalize r6 rd=vV at*;have B4:d∈rd:=hp.mem_iff.2 (List.mem_cons_self ..);obtain⟨ll,gB⟩:=h.inr d (List.mem_append_right _ B4);have Hf:∀u:Int,(bF[u.toNat]?.getD []).Nodup∧gU n (bF[u.toNat]?.getD []):=fun u=>by
  cases ai:bF[u.toNat]? with
  |none=>exact⟨List.nodup_nil,fun e he=>by cases he⟩
  |some l=>exact pR l (List.mem_of_getElem? ai)
 obtain⟨Qz,EM⟩:=abd aA pR d.toNat (by omega);have ym:((d.toNat:Nat):Int)=d:=by omega
 rw[ym]at EM;generalize (sa bF)[d.toNat]?.getD []=us at*;have QA:gU n us:=fun u hu=>by
  obtain⟨g1,g2⟩:=(EM u).1 hu;refine⟨g1,?_⟩;rcases Nat.lt_or_ge u.toNat bF.length with aD|ln
  ·omega
  ·rw[List.getElem?_eq_none ln]at g2
   cases g2
 obtain⟨im,i_,vU⟩:=ahY us wt vV Qz (by rw[h.wl];exact QA);have XQ:(P++d::vV).Nodup:=(hp.append_left P).nodup_iff.1 h.c7;obtain⟨en,dQ,iC⟩:=List.nodup_append.1 XQ;obtain⟨qQ,uk⟩:=List.nodup_cons.1 dQ;have W9:d∉P:=fun bb=>iC d bb d (List.mem_cons_self ..) rfl;have ck:∀u:Int,0≤u→u<n→(u∈P∨u=d∨u∈vV↔c4 wt u.toNat=0):=fun u aj I=>by
  rw[←h.zero u aj I,List.mem_append,hp.mem_iff,List.mem_cons]
 have Yd:∀u:Int,0≤u→u<n→c4 wt u.toNat=0→∀e∈bF[u.toNat]?.getD [],e∈P:=fun u aj I hw=>by
  rw[h.Ke u aj I]at hw;exact Vb.1 (by omega)
 have Cd:∀u:Int,0≤u→u<n→c4 wt u.toNat=0→u∉us:=fun u aj I hw hu=>W9 (Yd u aj I hw d ((EM u).1 hu).2);have rM:∀u:Int,u∈(n6 us wt vV).2↔u∈vV∨(u∈us∧c4 wt u.toNat=1):=fun u=>by
  rw[vU.mem_iff,List.mem_append,List.mem_filter,decide_eq_true_eq]
 refine⟨?_,?_,im.trans h.wl,fun u aj I=> ?_,fun u aj I=> ?_,fun p s x dJ=> ?_⟩
 ·have az:((P++[d])++(n6 us wt vV).2).Perm ((P++d::vV)++us.filter fun u=>decide (c4 wt u.toNat=1)):=by
   refine (vU.append_left (P++[d])).trans (List.Perm.of_eq ?_);simp
  refine az.nodup_iff.2 (List.nodup_append.2 ⟨XQ,Qz.filter _,fun a aZ b J e=> ?_⟩);subst e;rw[List.mem_filter,decide_eq_true_eq]at J;obtain⟨eP,bY⟩:=QA a J.1;rw[List.mem_append,List.mem_cons]at aZ;have:=(ck a eP bY).1 aZ;omega
 ·intro u hu;rw[List.mem_append,List.mem_append,List.mem_singleton,rM]at hu;rcases hu with (hu|hu)|hu|hu
  ·exact h.inr u (List.mem_append_left _ hu)
  ·exact hu▸⟨ll,gB⟩
  ·exact h.inr u (List.mem_append_right _ (hp.mem_iff.2 (List.mem_cons_of_mem _ hu)))
  ·exact QA u hu.1
 ·rw[i_ u aj,h.Ke u aj I];have U:=adL W9 _ (Hf u).1;have ae:(u∈us)↔d∈bF[u.toNat]?.getD []:=by rw[EM];exact⟨fun h=>h.2,fun h=>⟨aj,h⟩⟩
  by_cases hu:u∈us
  ·rw[if_pos hu];rw[if_pos (ae.1 hu)]at U;omega
  ·rw[if_neg hu];rw[if_neg (fun bb=>hu (ae.2 bb))]at U;omega
 ·rw[i_ u aj,List.mem_append,List.mem_append,List.mem_singleton,rM];have aJ:=ck u aj I;constructor
  ·rintro ((hu|hu)|hu|⟨hu,hw⟩)
   ·have hw:=aJ.1 (.inl hu);rw[if_neg (Cd u aj I hw)];omega
   ·have hw:=aJ.1 (.inr (.inl hu));rw[if_neg (Cd u aj I hw)];omega
   ·have hw:=aJ.1 (.inr (.inr hu));rw[if_neg (Cd u aj I hw)];omega
   ·rw[if_pos hu];omega
  ·intro hw;by_cases hu:u∈us
   ·rw[if_pos hu]at hw;exact .inr (.inr ⟨hu,by omega⟩)
   ·rw[if_neg hu]at hw;rcases aJ.2 (by omega)with bp|bp|bp
    ·exact .inl (.inl bp)
    ·exact .inl (.inr bp)
    ·exact .inr (.inl bp)
 ·intro e he;rcases List.eq_nil_or_concat s with rfl|⟨AJ,y,rfl⟩
  ·obtain⟨rfl,af⟩:=List.append_inj' dJ rfl;obtain rfl:d=x:=by simpa using af
   exact Yd d ll gB ((ck d ll gB).1 (.inr (.inl rfl))) e he
  ·have hP':P++[d]=(p++x::AJ)++[y]:=by rw[dJ];simp
   obtain⟨bp,-⟩:=List.append_inj' hP' rfl;exact h.top p AJ x bp e he
theorem af9 {bF:List (List Int)} {n:Nat} (aA:bF.length=n) (pR:∀l∈bF,l.Nodup∧gU n l):∀(F:Nat) (P wt rd:List Int),zt bF n P wt rd→n<F+P.length→∃ko,zt bF n (Cw (sa bF) F wt rd P) ko []:=by
 intro F;induction F with
 |zero=>
  intro P wt rd h hF;have:=vQ n P (List.nodup_append.1 h.c7).1 (fun e he=>h.inr e (List.mem_append_left _ he));omega
 |succ F bH=>
  intro P wt rd h hF;unfold Cw;by_cases aH:rd.length=0
  ·rw[if_pos aH];obtain rfl:=List.length_eq_zero_iff.1 aH;exact⟨wt,h⟩
  ·rw[if_neg aH];exact bH _ _ _ (h.step aA pR (by omega)) (by rw[List.length_append,List.length_singleton];omega)
theorem ahW:∀(ls:List (List Int)) (d:Nat) (rd:List Int),rd.Nodup→(∀u∈rd,u<d)→(r8 ls d rd).Nodup∧∀u:Int,u∈r8 ls d rd↔u∈rd∨((d:Int)≤u∧ls[(u-d).toNat]?=some []):=by
 intro ls;induction ls with
 |nil=>intro d rd h _;exact⟨h,fun u=>by simp[r8]⟩
 |cons l ls bH=>
  intro d rd h aD;have av:(d:Int)∉rd:=fun bb=>by have:=aD _ bb;omega
  have hm:∀u:Int,u∈(if l.length=0 then vT rd d else rd)↔u∈rd∨(u=d∧l=[]):=fun u=>by
   split
   ·rename_i aj;rw[(L4 rd d).mem_iff,List.mem_cons];exact⟨fun bb=>bb.elim (fun e=> .inr ⟨e,List.length_eq_zero_iff.1 aj⟩) .inl,fun bb=>bb.elim .inr (fun e=> .inl e.1)⟩
   ·rename_i aj;exact⟨.inl,fun bb=>bb.resolve_right (fun e=>aj (by rw[e.2];rfl))⟩
  obtain⟨g1,g2⟩:=bH (d+1) (if l.length=0 then vT rd d else rd) (by
   split
   ·exact (L4 rd d).nodup_iff.2 (List.nodup_cons.2 ⟨av,h⟩)
   ·exact h) (fun u hu=>by
   rcases (hm u).1 hu with U|⟨U,-⟩
   ·have:=aD u U;omega
   ·omega)
  rw[r8];refine⟨g1,fun u=> ?_⟩;rw[g2,hm];constructor
  ·rintro ((U|⟨U,ae⟩)|⟨U,ae⟩)
   ·exact .inl U
   ·refine .inr ⟨by omega,?_⟩;rw[U,Int.sub_self,ae];rfl
   ·refine .inr ⟨by omega,?_⟩;rw[show (u-(d:Int)).toNat=(u-((d+1:Nat):Int)).toNat+1 by omega,List.getElem?_cons_succ];exact ae
  ·rintro (U|⟨U,ae⟩)
   ·exact .inl (.inl U)
   ·by_cases QB:u=d
    ·subst QB;rw[Int.sub_self]at ae;exact .inl (.inr ⟨rfl,Option.some.inj ae⟩)
    ·rw[show (u-(d:Int)).toNat=(u-((d+1:Nat):Int)).toNat+1 by omega,List.getElem?_cons_succ]at ae;exact .inr ⟨by omega,ae⟩
theorem Y1 {bF:List (List Int)} {n:Nat} (aA:bF.length=n):zt bF n [] (xx bF) (r8 bF 0 []):=by
 obtain⟨I,U⟩:=ahW bF 0 [] List.nodup_nil (fun u hu=>by cases hu);have hw:∀u:Int,0≤u→u<n→c4 (xx bF) u.toNat=((bF[u.toNat]?.getD []).length:Nat):=fun u aj ae=>by
  unfold c4 xx;rw[List.getElem?_map,a8 (show u.toNat<bF.length by omega)];rfl
 have hm:∀u:Int,u∈r8 bF 0 []↔0≤u∧bF[u.toNat]?=some []:=fun u=>by rw[U];simp
 refine⟨by rw[List.nil_append];exact I,fun u hu=> ?_,by unfold xx;rw[List.length_map,aA],fun u aj ae=> ?_,fun u aj ae=> ?_,fun p s d dJ=> ?_⟩
 ·rw[List.nil_append,hm]at hu;have:=(b8 hu.2).1;omega
 ·rw[hw u aj ae];unfold x_;rw[List.filter_eq_self.2 (fun e _=>by simp)]
 ·rw[List.nil_append,hm,hw u aj ae,a8 (show u.toNat<bF.length by omega)];simp[aj]
 ·simp at dJ
theorem af8 {bF:List (List Int)} {n:Nat} {P wt:List Int} (h:zt bF n P wt []) (pR:∀d:Int,gU n (bF[d.toNat]?.getD [])) (mC:∀d:Int,¬nN bF d d):∀u:Int,0≤u→u<n→u∈P:=by
 intro u aj I;refine Decidable.not_not.1 fun hu=> ?_;have key:∀k:Nat,∃(a:Int) (c:List Int),c.length=k∧(a::c).Nodup∧gU n (a::c)∧a∉P∧∀x∈c,nN bF x a:=by
  intro k;induction k with
  |zero=>exact⟨u,[],rfl,by simp,fun e he=>by rw[List.mem_singleton]at he;exact he▸⟨aj,I⟩,hu,fun x af=>by cases af⟩
  |succ k bH=>
   obtain⟨a,c,aq,kE,aw,aZ,aH⟩:=bH;obtain⟨a0,cE⟩:=aw a (List.mem_cons_self ..);have hw:¬c4 wt a.toNat=0:=fun bb=>aZ (by have:=(h.zero a a0 cE).2 bb;rwa [List.append_nil]at this);rw[h.Ke a a0 cE]at hw;have bQ:¬∀e∈bF[a.toNat]?.getD [],e∈P:=fun bb=>hw (by rw[Vb.2 bb];rfl);obtain⟨e,he⟩:=Classical.not_forall.1 bQ;obtain⟨Ei,K2⟩:=Classical.not_imp.1 he;have ht:∀x∈a::c,nN bF x e:=fun x af=>by
    rcases List.mem_cons.1 af with rfl|af
    ·exact .one Ei
    ·exact .step (aH x af) Ei
   refine⟨e,a::c,by rw[List.length_cons,aq],List.nodup_cons.2 ⟨fun bb=>mC e (ht e bb),kE⟩,fun x af=> ?_,K2,ht⟩;rcases List.mem_cons.1 af with rfl|af
   ·exact pR a _ Ei
   ·exact aw x af
 obtain⟨a,c,aq,kE,aw,-⟩:=key n;have:=vQ n _ kE aw;rw[List.length_cons]at this;omega
theorem Ry {bF:List (List Int)} {n:Nat} (aA:bF.length=n) (pR:∀l∈bF,l.Nodup∧gU n l) (mC:∀d:Int,¬nN bF d d):
  (o' bF).Nodup∧gU n (o' bF)∧(∀u:Int,0≤u→u<n→u∈o' bF)∧∀(p s:List Int) (d:Int),o' bF=p++d::s→∀e∈bF[d.toNat]?.getD [],e∈p:=by
 obtain⟨wt,h⟩:=af9 aA pR (bF.length+1) [] (xx bF) (r8 bF 0 []) (Y1 aA) (by rw[aA];simp);have av:∀d:Int,gU n (bF[d.toNat]?.getD []):=fun d=>by
  cases ai:bF[d.toNat]? with
  |none=>exact fun e he=>by cases he
  |some l=>exact (pR l (List.mem_of_getElem? ai)).2
 have I:=h.c7;have U:=h.inr;rw[List.append_nil]at I U;exact⟨I,U,af8 h av mC,h.top⟩
theorem Z0 {bF:List (List Int)} {n:Nat} (aA:bF.length=n) (pR:∀l∈bF,l.Nodup∧gU n l) (mC:∀d:Int,¬nN bF d d):(o' bF).length=n:=by
 obtain⟨I,U,ae,-⟩:=Ry aA pR mC;refine Nat.le_antisymm (vQ n _ I U) ?_;have key:∀m:Nat,m≤n→∀l:List Int,(∀u:Int,0≤u→u<m→u∈l)→m≤l.length:=by
  intro m;induction m with
  |zero=>intro _ l _;exact Nat.zero_le _
  |succ m bH=>
   intro hm l aq;have gR:(m:Int)∈l:=aq m (by omega) (by omega);have:=bH (by omega) (l.erase (m:Int)) (fun u aj aJ=>(List.mem_erase_of_ne (by omega)).2 (aq u aj (by omega)));rw[List.length_erase_of_mem gR]at this;have:=List.length_pos_of_mem gR;omega
 exact key n (Nat.le_refl _) _ ae
def qx (p:Int):List Int→Nat→List Nat
 |[],_=>[]
 |x::r,i=>if x=p then i::qx p r (i+1)else qx p r (i+1)
def hq (par:List Int) (p:Int):List Nat:=qx p par 0
theorem Oy (p:Int):∀(l:List Int) (i j:Nat),j∈qx p l i↔i≤j∧l[j-i]?=some p
 |[],i,j=>by simp[qx]
 |x::r,i,j=>by
  rw[qx];have bH:=Oy p r (i+1) j;by_cases af:x=p
  ·rw[if_pos af,List.mem_cons,bH];constructor
   ·rintro (rfl|⟨I,U⟩)
    ·exact⟨Nat.le_refl _,by simp[af]⟩
    ·refine⟨by omega,?_⟩;rw[show j-i=(j-(i+1))+1 by omega,List.getElem?_cons_succ];exact U
   ·rintro⟨I,U⟩;rcases Nat.eq_or_lt_of_le I with rfl|ae
    ·exact .inl rfl
    ·refine .inr ⟨ae,?_⟩;rw[show j-i=(j-(i+1))+1 by omega,List.getElem?_cons_succ]at U;exact U
  ·rw[if_neg af,bH];constructor
   ·rintro⟨I,U⟩;refine⟨by omega,?_⟩;rw[show j-i=(j-(i+1))+1 by omega,List.getElem?_cons_succ];exact U
   ·rintro⟨I,U⟩;rcases Nat.eq_or_lt_of_le I with rfl|ae
    ·simp at U;exact absurd U af
    ·refine⟨ae,?_⟩;rw[show j-i=(j-(i+1))+1 by omega,List.getElem?_cons_succ]at U;exact U
theorem vm {par:List Int} {p:Int} {j:Nat}:j∈hq par p↔par[j]?=some p:=by
 unfold hq;rw[Oy];simp
theorem U0 (p:Int):∀(l:List Int) (i:Nat),(qx p l i).Pairwise (·<·)
 |[],_=>List.Pairwise.nil
 |x::r,i=>by
  rw[qx];have bH:=U0 p r (i+1);split
  ·refine List.pairwise_cons.2 ⟨fun j aB=> ?_,bH⟩;have:=((Oy p r (i+1) j).1 aB).1;omega
  ·exact bH
theorem U5 (par:List Int) (p:Int):(hq par p).Nodup:=(U0 p par 0).imp (fun h e=>by omega)
def my (pri:Nat→Int) (o:Nat→Int) (acc:List Nat) (c:Nat):List Nat:=
 if o c= -1 then acc else
  let a:=match acc with|[]=>[]|b::r=>if pri b<pri c then []else b::r
  match a with|[]=>[c]|b::r=>if pri c=pri b then b::r++[c]else b::r
def jn (pri:Nat→Int) (o:Nat→Int) (l:List Nat):List Nat:=l.foldl (my pri o) []
def mP (pri:Nat→Int) (o:Nat→Int) (l:List Nat):List Nat:=l.filter (fun c=>decide (o c≠ -1∧∀d∈l,o d≠ -1→pri d≤pri c))
theorem uj {pri o:Nat→Int} {l:List Nat} {c:Nat}:c∈mP pri o l↔c∈l∧o c≠ -1∧∀d∈l,o d≠ -1→pri d≤pri c:=by
 unfold mP;rw[List.mem_filter,decide_eq_true_eq]
theorem aa5 {pri o:Nat→Int}:∀{l:List Nat} {c:Nat},c∈l→o c≠ -1→∃d,d∈mP pri o l
 |[],c,h,_=>by cases h
 |x::r,c,h,aL=>by
  by_cases aH:∃d∈r,o d≠ -1
  ·obtain⟨d,av,o2⟩:=aH;obtain⟨t,bS⟩:=aa5 (pri:=pri) av o2;obtain⟨I,U,ae⟩:=uj.1 bS;by_cases af:o x≠ -1∧pri t<pri x
   ·refine⟨x,uj.2 ⟨by simp,af.1,fun e he Ew=> ?_⟩⟩;rcases List.mem_cons.1 he with rfl|he
    ·exact Int.le_refl _
    ·have:=ae e he Ew;omega
   ·refine⟨t,uj.2 ⟨by simp[I],U,fun e he Ew=> ?_⟩⟩;rcases List.mem_cons.1 he with rfl|he
    ·by_cases hp:pri t<pri e
     ·exact absurd ⟨Ew,hp⟩ af
     ·omega
    ·exact ae e he Ew
  ·have B3:c=x:=by
    rcases List.mem_cons.1 h with h|h
    ·exact h
    ·exact absurd ⟨c,h,aL⟩ aH
   subst B3;refine⟨c,uj.2 ⟨by simp,aL,fun e he Ew=> ?_⟩⟩;rcases List.mem_cons.1 he with rfl|he
   ·exact Int.le_refl _
   ·exact absurd ⟨e,he,Ew⟩ aH
theorem ajK {pri o:Nat→Int} {l:List Nat} {b c:Nat} (J:b∈mP pri o l) (ah:c∈mP pri o l):pri b=pri c:=by
 obtain⟨bY,bc,eh⟩:=uj.1 J;obtain⟨aC,aM,a1⟩:=uj.1 ah;have:=eh c aC aM;have:=a1 b bY bc;omega
theorem ajL (pri o:Nat→Int) (l:List Nat) (c:Nat):mP pri o (l++[c])=my pri o (mP pri o l) c:=by
 have Xh:∀x,x∈l→((∀d∈l++[c],o d≠ -1→pri d≤pri x)↔(∀d∈l,o d≠ -1→pri d≤pri x)∧(o c≠ -1→pri c≤pri x)):=fun x _=>by
  constructor
  ·intro h;exact⟨fun d av=>h d (by simp[av]),fun ah=>h c (by simp) ah⟩
  ·rintro⟨I,U⟩ d av o2;rcases List.mem_append.1 av with av|av
   ·exact I d av o2
   ·rw[List.mem_singleton]at av;subst av;exact U o2
 unfold my;by_cases ah:o c= -1
 ·rw[if_pos ah];unfold mP;rw[List.filter_append,List.filter_cons_of_neg (by simp[ah]),List.filter_nil,List.append_nil];refine List.filter_congr fun x af=> ?_;rw[decide_eq_decide,Xh x af];simp[ah]
 ·rw[if_neg ah];have afB:mP pri o (l++[c])=l.filter (fun x=>decide (o x≠ -1∧(∀d∈l,o d≠ -1→pri d≤pri x)∧pri c≤pri x))++(if∀d∈l,o d≠ -1→pri d≤pri c then [c]else []):=by
   unfold mP;rw[List.filter_append];congr 1
   ·refine List.filter_congr fun x af=> ?_;rw[decide_eq_decide,Xh x af];simp[ah]
   ·rw[List.filter_cons];have:(∀d∈l++[c],o d≠ -1→pri d≤pri c)↔(∀d∈l,o d≠ -1→pri d≤pri c):=by
     constructor
     ·intro h d av;exact h d (by simp[av])
     ·intro h d av o2;rcases List.mem_append.1 av with av|av
      ·exact h d av o2
      ·rw[List.mem_singleton]at av;subst av;exact Int.le_refl _
    simp only[this,ah,ne_eq,not_false_eq_true,true_and,List.filter_nil];by_cases bb:∀d∈l,o d≠ -1→pri d≤pri c<;>simp[bb]
  rw[afB];have bl:l.filter (fun x=>decide (o x≠ -1∧(∀d∈l,o d≠ -1→pri d≤pri x)∧pri c≤pri x))=(mP pri o l).filter (fun x=>decide (pri c≤pri x)):=by
   unfold mP;rw[List.filter_filter];refine List.filter_congr fun x _=> ?_;by_cases I:pri c≤pri x<;>by_cases U:o x≠ -1∧∀d∈l,o d≠ -1→pri d≤pri x<;>simp[I,U]<;>simp_all
  rw[bl]
  cases PF:mP pri o l with
  |nil=>
   have ht:∀d∈l,o d≠ -1→pri d≤pri c:=fun d av o2=>by
    obtain⟨t,bS⟩:=aa5 (pri:=pri) av o2;rw[PF]at bS;cases bS
   rw[if_pos ht];rfl
  |cons b r=>
   have J:b∈mP pri o l:=by rw[PF];simp
   obtain⟨bY,bc,eh⟩:=uj.1 J;have heq:∀x∈b::r,pri x=pri b:=fun x af=>ajK (by rw[PF];exact af) J;dsimp only;by_cases aD:pri b<pri c
   ·rw[if_pos aD];have ht:∀d∈l,o d≠ -1→pri d≤pri c:=fun d av o2=>by have:=eh d av o2;omega
    rw[if_pos ht];rw[List.filter_eq_nil_iff.2 (fun x af=>by have:=heq x af;simp;omega)];rfl
   ·rw[if_neg aD];dsimp only;have ae3:(b::r).filter (fun x=>decide (pri c≤pri x))=b::r:=List.filter_eq_self.2 (fun x af=>by have:=heq x af;simp;omega);rw[ae3];by_cases he:pri c=pri b
    ·rw[if_pos he,if_pos (fun d av o2=>by have:=eh d av o2;omega)]
    ·rw[if_neg he,if_neg (fun h=>by have:=h b bY bc;omega),List.append_nil]
theorem vd (pri o:Nat→Int) (l:List Nat):jn pri o l=mP pri o l:=by
 have h:∀(r done:List Nat),r.foldl (my pri o) (mP pri o done)=mP pri o (done++r):=by
  intro r;induction r with
  |nil=>intro done;simp
  |cons x r bH=>
   intro done;rw[List.foldl_cons,←ajL,bH,List.append_assoc];rfl
 have:=h l [];rwa [List.nil_append,show mP pri o []=[]from rfl]at this
def n5 (o:Nat→Int):List Nat→Int
 |[]=> -1
 |[c]=>o c
 |_=> -2
def fI (par:List Int) (pri:Nat→Int) (apl:Nat→Bool):Nat→Nat→Int
 |0,_=> -1
 |F+1,i=>
  let r:=n5 (fI par pri apl F) (jn pri (fI par pri apl F) (hq par i))
  if r= -1∧apl i=true then i else r
def Fh (par:List Int) (pri:Nat→Int) (apl:Nat→Bool) (F:Nat):Int:=n5 (fI par pri apl F) (jn pri (fI par pri apl F) (hq par (-1)))
theorem ahG (par:List Int) (pri:Nat→Int) (apl:Nat→Bool) (hp:∀(i:Nat) (p:Int),par[i]?=some p→p<i):∀(F i:Nat),par.length≤F+i→fI par pri apl F i=fI par pri apl (F+1) i∨par.length≤i:=by
 intro F;induction F with
 |zero=>intro i h;exact .inr (by omega)
 |succ F bH=>
  intro i h;by_cases aE:par.length≤i
  ·exact .inr aE
  refine .inl ?_;have mD:∀c∈hq par i,fI par pri apl F c=fI par pri apl (F+1) c:=fun c ah=>by
   have Hk:=vm.1 ah;have aD:=hp c _ Hk;have oY:c<par.length:=(b8 Hk).1;rcases bH c (by omega)with I|I
   ·exact I
   ·omega
  have J:jn pri (fI par pri apl F) (hq par i)=jn pri (fI par pri apl (F+1)) (hq par i):=by
   rw[vd,vd];unfold mP;refine List.filter_congr fun c ah=> ?_;rw[decide_eq_decide,mD c ah];constructor
   ·rintro⟨I,U⟩;exact⟨I,fun d av=>by rw[←mD d av];exact U d av⟩
   ·rintro⟨I,U⟩;exact⟨I,fun d av=>by rw[mD d av];exact U d av⟩
  have aL:n5 (fI par pri apl F) (jn pri (fI par pri apl F) (hq par i))=n5 (fI par pri apl (F+1)) (jn pri (fI par pri apl (F+1)) (hq par i)):=by
   rw[←J]
   cases jt:jn pri (fI par pri apl F) (hq par i)with
   |nil=>rfl
   |cons c r=>
    cases r with
    |nil=>
     have:c∈jn pri (fI par pri apl F) (hq par i):=by rw[jt];simp
     rw[vd]at this;exact mD c (uj.1 this).1
    |cons d r=>rfl
  rw[fI,fI];simp only[aL]
def kh (σ:Nat→Nat) (r:Int):Int:=if r<0 then r else σ r.toNat
structure Twin (σ:Nat→Nat) (par par':List Int) (pri mm:Nat→Int) (apl apl':Nat→Bool):Prop where
 lt:∀i,i<par.length→σ i<par'.length
 inj:∀i j,i<par.length→j<par.length→σ i=σ j→i=j
 Mq:∀j,j<par'.length→∃i,i<par.length∧σ i=j
 L1:∀(i:Nat) (p:Int),par[i]?=some p→par'[σ i]?=some (kh σ p)
 low:∀(i:Nat) (p:Int),par[i]?=some p→ -1≤p∧p<i
 Is:∀i,i<par.length→mm (σ i)=pri i
 acx:∀i,i<par.length→apl' (σ i)=apl i
section
variable {σ:Nat→Nat} {par par':List Int} {pri mm:Nat→Int} {apl apl':Nat→Bool}
theorem Twin.mz (h:Twin σ par par' pri mm apl apl') (p:Int) (hp: -1≤p∧p<par.length):(hq par' (kh σ p)).Perm ((hq par p).map σ):=by
 refine (List.perm_ext_iff_of_nodup (U5 _ _) ?_).2 fun j=> ?_
 ·refine List.pairwise_map.2 ((U5 par p).imp_of_mem fun {a b} aZ J bQ e=>bQ ?_);exact h.inj a b (b8 (vm.1 aZ)).1 (b8 (vm.1 J)).1 e
 ·rw[vm,List.mem_map];constructor
  ·intro aB;obtain⟨i,aE,rfl⟩:=h.Mq j (b8 aB).1;refine⟨i,vm.2 ?_,rfl⟩;have ai:par[i]?=some par[i]:=a8 aE;have U:=h.L1 i _ ai;rw[aB]at U;have ae:=Option.some.inj U;have aq:=h.low i _ ai;rw[ai];congr 1;unfold kh at ae;split at ae
   ·split at ae
    ·omega
    ·omega
   ·split at ae
    ·omega
    ·have:=h.inj p.toNat (par[i]).toNat (by omega) (by omega) (by omega);omega
  ·rintro⟨i,aE,rfl⟩;exact h.L1 i p (vm.1 aE)
theorem ahs {o AB:Nat→Int} {l p0:List Nat} (h:p0.Perm (l.map σ)) (aL:∀c∈l,AB (σ c)=kh σ (o c)):n5 AB p0=kh σ (n5 o l):=by
 match l,h,aL with
 |[],h,_=>
  rw[List.map_nil]at h;rw[List.Perm.eq_nil h];rfl
 |[c],h,aL=>
  rw[List.map_cons,List.map_nil]at h;rw[List.perm_singleton.1 h];exact aL c (by simp)
 |c::d::r,h,_=>
  have aq:=h.length_eq;match p0,aq with
  |a::b::oE,_=>rfl
  |[],aq=>simp at aq
  |[a],aq=>simp at aq
theorem Twin.aaB (h:Twin σ par par' pri mm apl apl') (F:Nat) (bH:∀i,i<par.length→fI par' mm apl' F (σ i)=kh σ (fI par pri apl F i)) (p:Int) (hp: -1≤p∧p<par.length):
  n5 (fI par' mm apl' F) (jn mm (fI par' mm apl' F) (hq par' (kh σ p)))=kh σ (n5 (fI par pri apl F) (jn pri (fI par pri apl F) (hq par p))):=by
 have aD:∀c∈hq par p,c<par.length:=fun c ah=>(b8 (vm.1 ah)).1;have vD:∀r:Int,kh σ r≠ -1↔r≠ -1:=fun r=>by unfold kh;split<;>omega
 refine ahs ?_ (fun c ah=> ?_)
 ·rw[vd,vd];have I:=(h.mz p hp).filter (fun c=>decide (fI par' mm apl' F c≠ -1∧∀d∈hq par' (kh σ p),fI par' mm apl' F d≠ -1→mm d≤mm c));unfold mP;refine I.trans (List.Perm.of_eq ?_);rw[List.filter_map];congr 1;refine List.filter_congr fun c ah=> ?_;simp only[Function.comp_apply];rw[decide_eq_decide,bH c (aD c ah),vD,h.Is c (aD c ah)];refine and_congr Iff.rfl ⟨fun bb d av o2=> ?_,fun bb d av o2=> ?_⟩
  ·have:=bb (σ d) ((h.mz p hp).mem_iff.2 (List.mem_map.2 ⟨d,av,rfl⟩)) (by rw[bH d (aD d av),vD];exact o2);rwa [h.Is d (aD d av)]at this
  ·obtain⟨e,he,rfl⟩:=List.mem_map.1 ((h.mz p hp).mem_iff.1 av);rw[bH e (aD e he),vD]at o2;rw[h.Is e (aD e he)];exact bb e he o2
 ·rw[vd]at ah;exact bH c (aD c (uj.1 ah).1)
theorem Twin.out (h:Twin σ par par' pri mm apl apl'):∀(F i:Nat),i<par.length→fI par' mm apl' F (σ i)=kh σ (fI par pri apl F i):=by
 intro F;induction F with
 |zero=>intro i _;rfl
 |succ F bH=>
  intro i aE;have aH:=h.aaB F bH (i:Int) ⟨by omega,by omega⟩;have pP:kh σ (i:Int)=((σ i:Nat):Int):=by unfold kh;rw[if_neg (by omega)];simp
  rw[pP]at aH;rw[fI,fI];rw[aH,h.acx i aE];generalize n5 (fI par pri apl F) (jn pri (fI par pri apl F) (hq par i))=r at*;have vD:kh σ r= -1↔r= -1:=by
   unfold kh;split<;>omega
  by_cases I:r= -1∧apl i=true
  ·rw[if_pos I,if_pos ⟨vD.2 I.1,I.2⟩,pP]
  ·rw[if_neg I,if_neg (fun U=>I ⟨vD.1 U.1,U.2⟩)]
theorem Twin.RY (h:Twin σ par par' pri mm apl apl') (F:Nat):Fh par' mm apl' F=kh σ (Fh par pri apl F):=by
 have:=h.aaB F (h.out F) (-1) ⟨by omega,by omega⟩;rwa [show kh σ (-1)= -1 from rfl]at this
end
theorem ZO {o:Nat→Int} {l:List Nat} {n:Nat} (h:∀c∈l,-2≤o c∧o c<n): -2≤n5 o l∧n5 o l<n:=by
 match l,h with
 |[],_=>exact⟨by show (-2:Int)≤ -1;omega,by show (-1:Int)<n;omega⟩
 |[c],h=>exact h c (by simp)
 |_::_::_,_=>exact⟨by show (-2:Int)≤ -2;omega,by show (-2:Int)<n;omega⟩
theorem ahF (par:List Int) (pri:Nat→Int) (apl:Nat→Bool):∀(F i:Nat),i<par.length→ -2≤fI par pri apl F i∧fI par pri apl F i<par.length:=by
 intro F;induction F with
 |zero=>intro i aE;exact⟨by show (-2:Int)≤ -1;omega,by show (-1:Int)<_;omega⟩
 |succ F bH=>
  intro i aE;have J:=ZO (o:=fI par pri apl F) (l:=jn pri (fI par pri apl F) (hq par i)) (n:=par.length) (fun c ah=>by
   rw[vd]at ah;exact bH c (b8 (vm.1 (uj.1 ah).1)).1)
  rw[fI];split
  ·omega
  ·exact J
theorem aaz (par:List Int) (pri:Nat→Int) (apl:Nat→Bool) (F:Nat): -2≤Fh par pri apl F∧Fh par pri apl F<par.length:=
 ZO (fun c ah=>by
  rw[vd]at ah;exact ahF par pri apl F c (b8 (vm.1 (uj.1 ah).1)).1)
theorem Twin.len {σ:Nat→Nat} {par par':List Int} {pri mm:Nat→Int} {apl apl':Nat→Bool} (h:Twin σ par par' pri mm apl apl'):par'.length=par.length:=by
 have I:((List.range par.length).map σ).Perm (List.range par'.length):=by
  refine (List.perm_ext_iff_of_nodup ?_ List.nodup_range).2 fun j=> ?_
  ·refine List.pairwise_map.2 (List.nodup_range.imp_of_mem fun {a b} aZ J bQ e=>bQ ?_);exact h.inj a b (List.mem_range.1 aZ) (List.mem_range.1 J) e
  ·rw[List.mem_map,List.mem_range];constructor
   ·rintro⟨i,aE,rfl⟩;exact h.lt i (List.mem_range.1 aE)
   ·intro aB;obtain⟨i,aE,e⟩:=h.Mq j aB;exact⟨i,List.mem_range.2 aE,e⟩
 have:=I.length_eq;simpa using this.symm
end Go.Proofs.YtobpgndkciofhaaGreatDoor
