import Derived.Test.YtilhklpfkgbikaaGreatDoorD
import Derived.StillTail
set_option linter.all false
namespace Go.Proofs.YtilhklpfkgbikaaGreatDoor
open Go.RowKit Go.Proofs.Tryz
set_option maxRecDepth 100000
inductive K3(S:List aa):aa->aa->Prop
 |zero {i:aa} (h:S[i]?=some 0):K3 S i 0
 |succ {i s h:aa} (aO:S[i]?=some (s+1)) (aT:K3 S s h):K3 S i (h+1)
def Pw(S:List aa)(q:aa)(a:J):Prop:=
 (∃h,K3 S q h/\h<=11)/\
 ((a=0/\S[q]?=some q)\/
  (a=1/\1<=q/\∃s,S[q-1]?=some s/\S[q]?=some s)\/
  (a=2/\1<=q/\∃s1 s,S[q-1]?=some (s1+1)/\S[s1]?=some s/\S[q]?=some s)\/
  (a=3/\1<=q/\∃s2 s1 s,S[q-1]?=some (s2+1)/\S[s2]?=some (s1+1)/\S[s1]?=some s/\S[q]?=some s))
def oK(b0:List aa)(i j:aa):aa:=(b0[j+1]?.getD i)-1
structure DG(i:aa)(b0 ed:List aa):Prop where
 len:ed.length=i
 pos:b0.length=0->i=0
 head:∀s:aa,b0[0]?=some s->s=0
 inc:∀j s t:aa,b0[j]?=some s->b0[j+1]?=some t->s<t
 top:∀s:aa,b0[b0.length-1]?=some s->s<i
 low:∀j s:aa,b0[j]?=some s->s<i
 ends:∀j s:aa,b0[j]?=some s->ed[oK b0 i j]?=some s
def SR{i:aa}{b0 ed:List aa}(h:DG i b0 ed){j s:aa}(aO:b0[j+1]?=some s):1<=s:=by
 have ay:j<b0.length:=by have:=(b2 aO).1;omega
 have:=h.inc j _ s (bn ay) aO;omega
def apc{i:aa}{b0 ed:List aa}(h:DG i b0 ed){j s:aa}(aO:b0[j]?=some s):oK b0 i j<i:=by
 have:=(b2 (h.ends j s aO)).1;rw[h.len]at this;exact this
def apd{i:aa}{b0 ed S:List aa}(h:DG i b0 ed)(bH:∀q s:aa,ed[q]?=some s->S[q]?=some s):∀j s:aa,b0[j]?=some s->K3 S (oK b0 i j) j:=by
 intro j;induction j with
 |zero=>
  intro s aO;have e:=bH _ _ (h.ends 0 s aO);rw[h.head s aO]at e;exact .zero e
 |succ j bO=>
  intro s aO;have e:=bH _ _ (h.ends (j+1) s aO);have hp:=SR h aO;have ay:j<b0.length:=by have:=(b2 aO).1;omega
  have aT:=bO _ (bn ay);have he:oK b0 i j=s-1:=by unfold oK;rw[aO];rfl
  rw[he]at aT;exact .succ (by rw[e];congr 1;omega) aT
def Zl{l:List aa}{m x:aa}(hm:m<=l.length):(l.take m++[x])[m]?=some x:=by
 rw[k4 (by rw[gT];omega),gT,x5 hm,k7];rfl
def ae2{l:List aa}{m x j:aa}(hm:m<=l.length)(ay:j<m):(l.take m++[x])[j]?=l[j]?:=by
 rw[lQ (by rw[gT];omega),tv ay]
def Of{l:List aa}{m x:aa}(hm:m<=l.length):(l.take m++[x]).length=m+1:=by
 rw[fk,gT,x5 hm];rfl
def aeR{i a m:aa}{b0 ed:List aa}(h:DG i b0 ed)(hm:m+a=b0.length):DG (i+1) (b0.take m++[mv i a b0]) (ed++[mv i a b0]):=by
 have gp:m<=b0.length:=by omega
 have bV:mv i a b0=(b0[m]?.getD i):=by
  unfold mv;by_cases bD:a=0
  .rw[aP bD,lR (by omega)];rfl
  .rw[aw bD,show b0.length-a=m by omega,bn (by omega)];rfl
 have v8:mv i a b0<=i:=by
  rw[bV];by_cases aN:m<b0.length
  .rw[bn aN,b9];have:=h.low m _ (bn aN);omega
  .rw[lR (by omega)];exact bB _
 have qK:∀j s,(b0.take m++[mv i a b0])[j]?=some s->(j<m/\b0[j]?=some s)\/(j=m/\s=mv i a b0):=by
  intro j s aO;have ay:=(b2 aO).1;rw[Of gp]at ay;rcases rT j m with av|av
  .rw[ae2 gp av]at aO;exact .inl ⟨av,aO⟩
  .obtain rfl:j=m:=by omega
   rw[Zl gp]at aO;exact .inr ⟨rfl,(cJ aO).symm⟩
 refine⟨by rw[fk,h.len];rfl,λar=>by rw[Of gp]at ar;omega,λs aO=> ?_,λj s t aO cr=> ?_,λs aO=> ?_,λj s aO=> ?_,λj s aO=> ?_⟩
 .rcases qK 0 s aO with⟨_,aO⟩|⟨rfl,rfl⟩
  .exact h.head s aO
  .rw[bV];by_cases aN:0<b0.length
   .rw[bn aN,b9];exact h.head _ (bn aN)
   .have:=h.pos (by omega);rw[lR (by omega),this];rfl
 .rcases qK (j+1) t cr with⟨av,cr⟩|⟨he,rfl⟩
  .rcases qK j s aO with⟨_,aO⟩|⟨he,_⟩
   .exact h.inc j s t aO cr
   .omega
  .rcases qK j s aO with⟨_,aO⟩|⟨Gl,_⟩
   .rw[bV,<-he];by_cases aN:j+1<b0.length
    .rw[bn aN,b9];exact h.inc j s _ aO (bn aN)
    .rw[lR (by omega)];exact h.low j s aO
   .omega
 .rcases qK _ s aO with⟨_,aO⟩|⟨_,rfl⟩
  .have:=h.low _ s aO;omega
  .omega
 .rcases qK _ s aO with⟨_,aO⟩|⟨_,rfl⟩
  .have:=h.low _ s aO;omega
  .omega
 .rcases qK j s aO with⟨av,aO⟩|⟨rfl,rfl⟩
  .have he:oK (b0.take m++[mv i a b0]) (i+1) j=oK b0 i j:=by
    unfold oK;by_cases hjm:j+1<m
    .rw[ae2 gp hjm,bn (show j+1<b0.length by omega)];rfl
    .have hj1:j+1=m:=by omega
     rw[hj1,Zl gp,b9,bV]
   rw[he,lQ (by rw[h.len];exact apc h aO)];exact h.ends j s aO
  .have he:oK (b0.take j++[mv i a b0]) (i+1) j=i:=by
    unfold oK;rw[lR (by rw[Of gp];omega)];simp
   rw[he,k4 (by rw[h.len];exact bB _),h.len,k7];rfl
def am7{i m:aa}{a:J}{b0 ed S:List aa}(h:DG i b0 ed)(hm:m+a.toNat=b0.length)(ar:0<=a)(ao:a<=3)(DV:m+1<=12)(bH:∀q s:aa,(ed++[mv i a.toNat b0])[q]?=some s->S[q]?=some s):Pw S i a:=by
 have aH:=aeR (a:=a.toNat) h hm;have gp:m<=b0.length:=by omega
 have Av:=apd aH bH m _ (Zl gp);have he:oK (b0.take m++[mv i a.toNat b0]) (i+1) m=i:=by
  unfold oK;rw[lR (by rw[Of gp];omega)];simp
 rw[he]at Av;have az:S[i]?=some (mv i a.toNat b0):=bH i _ (by rw[k4 (by rw[h.len];exact bB _),h.len,k7];rfl);have tT:∀q s:aa,ed[q]?=some s->S[q]?=some s:=λq s aO=>bH q s (by rw[lQ (b2 aO).1];exact aO);have Ja:∀j(ay:j<b0.length),S[oK b0 i j]?=some (b0[j]'ay):=λj ay=>tT _ _ (h.ends j _ (bn ay));have W2:1<=a->1<=i:=λbD=>by
  have:=h.low 0 _ (bn (show 0<b0.length by omega));omega
 have XJ:∀(_:0<b0.length),oK b0 i (b0.length-1)=i-1:=λhp=>by
  unfold oK;rw[lR (by omega)];rfl
 have Xs:∀j(ay:j+1<b0.length),oK b0 i j=b0[j+1]'ay-1:=λj ay=>by
  unfold oK;rw[bn ay];rfl
 have Au:∀(bD:1<=a.toNat),mv i a.toNat b0=b0[m]'(by omega):=λbD=>by
  unfold mv;rw[aw (by omega),show b0.length-a.toNat=m by omega,bn (by omega)];rfl
 refine⟨⟨m,Av,by omega⟩,?_⟩;rcases (show a=0\/a=1\/a=2\/a=3 by omega)with rfl|rfl|rfl|rfl
 .exact .inl ⟨rfl,az⟩
 .refine .inr (.inl ⟨rfl,W2 (by omega),b0[m]'(by omega),?_,?_⟩)
  .have:=Ja m (by omega);rwa [show oK b0 i m=i-1 by rw[show m=b0.length-1 by omega,XJ (by omega)]]at this
  .rw[az,Au (by decide)]
 .refine .inr (.inr (.inl ⟨rfl,W2 (by omega),b0[m+1]'(by omega)-1,b0[m]'(by omega),?_,?_,?_⟩))
  .have ab:=SR h (bn (show m+1<b0.length by omega));have:=Ja (m+1) (by omega);rw[show oK b0 i (m+1)=i-1 by rw[show m+1=b0.length-1 by omega,XJ (by omega)]]at this;rw[this];congr 1;omega
  .have:=Ja m (by omega);rwa [Xs m (by omega)]at this
  .rw[az,Au (by decide)]
 .refine .inr (.inr (.inr ⟨rfl,W2 (by omega),b0[m+2]'(by omega)-1,b0[m+1]'(by omega)-1,b0[m]'(by omega),?_,?_,?_,?_⟩))
  .have ab:=SR h (bn (show m+1+1<b0.length by omega));have:=Ja (m+2) (by omega);rw[show oK b0 i (m+2)=i-1 by rw[show m+2=b0.length-1 by omega,XJ (by omega)]]at this;rw[this];congr 1;change 1<=b0[m+2]at ab;omega
  .have ab:=SR h (bn (show m+1<b0.length by omega));have:=Ja (m+1) (by omega);rw[Xs (m+1) (by omega)]at this;change S[b0[m+2]-1]?=_ at this;rw[this];congr 1;omega
  .have:=Ja m (by omega);rwa [Xs m (by omega)]at this
  .rw[az,Au (by decide)]
theorem aeT:∀(r:List cw)(i:aa)(b0 ed S:List aa),DG i b0 ed->lp r i b0 ed=(S,0,0)->
  (∃t,S=ed++t/\t.length=r.length)/\(∀j x,r[j]?=some x->0<=eP x.o/\Pw S (i+j) (eP x.o))/\(0<i+r.length->S[i+r.length-1]?=some 0)
 |[],i,b0,ed,S,h,aC=>by
  rw[lp]at aC;split at aC
  .exact absurd (show (4:J)=0 from congrArg (λp:List aa×aa×J=>p.2.2) aC) (by decide)
  .rename_i av;obtain rfl:ed=S:=congrArg Prod.fst aC;refine⟨⟨[],by simp,rfl⟩,λj x aj=>by simp at aj,λhp=> ?_⟩;simp only[sB,lT]at hp⊢;have aO:b0.length=1:=by
    rcases zB b0 with ar|ar
    .have:=h.pos ar;omega
    .omega
   have he:=h.ends 0 _ (bn (show 0<b0.length by omega));rw[h.head _ (bn (show 0<b0.length by omega))]at he;have a_:oK b0 i 0=i-1:=by
    unfold oK;rw[lR (by omega)];rfl
   rwa [a_]at he
 |x::r,i,b0,ed,S,h,aC=>by
  rw[lp]at aC;split at aC
  .exact absurd (show (2:J)=0 from congrArg (λp:List aa×aa×J=>p.2.2) aC) (by decide)
  .rename_i ar;split at aC
   .exact absurd (show (5:J)=0 from congrArg (λp:List aa×aa×J=>p.2.2) aC) (by decide)
   .rename_i ab;split at aC
    .exact absurd (show (16:J)=0 from congrArg (λp:List aa×aa×J=>p.2.2) aC) (by decide)
    .rename_i ad;have af:=DK x.o;have hm:(b0.length-(eP x.o).toNat)+(eP x.o).toNat=b0.length:=by omega
     have aH:=aeR (a:=(eP x.o).toNat) h hm;obtain⟨⟨t,cr,wj⟩,iK,W'⟩:=aeT r (i+1) _ _ S aH aC;rw[Of (by omega)]at ad;have akF:∀q s:aa,(ed++[mv i (eP x.o).toNat b0])[q]?=some s->S[q]?=some s:=λq s aO=>by
      rw[cr,lQ (b2 aO).1];exact aO
     refine⟨⟨mv i (eP x.o).toNat b0::t,by rw[cr];simp,by simp[wj]⟩,λj y bZ=> ?_,λ_=> ?_⟩
     .match j,bZ with
      |0,bZ=>
       obtain rfl:x=y:=cJ bZ;exact⟨by omega,am7 h hm (by omega) af.2 (by omega) akF⟩
      |j+1,bZ=>
       have:=iK j y (by simpa using bZ);rw[show i+1+j=i+(j+1) by omega]at this;exact this
     .have:=W' (by omega);rw[hi,show i+(r.length+1)-1=i+1+r.length-1 by omega];exact this
def Oc{e:List cw}(h:(c' e).2.2=0):0<e.length/\e.length<=48/\(c' e).1.length=e.length/\(∀j x,e[j]?=some x->0<=eP x.o/\Pw (c' e).1 j (eP x.o))/\(c' e).1[e.length-1]?=some 0:=by
 unfold c' at h⊢;split at h
 .exact absurd h (by decide)
 .rename_i DX;split at h
  .exact absurd h (by decide)
  .rename_i ar;rw[aw DX,aw ar];have ab:(lp e 0 [] []).2.1=0:=by
    have key:∀(r:List cw)(i:aa)(b0 ed:List aa),(lp r i b0 ed).2.2=0->(lp r i b0 ed).2.1=0:=by
     intro r;induction r with
     |nil=>
      intro i b0 ed aT;rw[lp]at aT⊢;split at aT
      .exact absurd (show (4:J)=0 from aT) (by decide)
      .rename_i aq;rw[aw aq]
     |cons x r bO=>
      intro i b0 ed aT;rw[lp]at aT⊢;split at aT
      .exact absurd (show (2:J)=0 from aT) (by decide)
      .rename_i aY;split at aT
       .exact absurd (show (5:J)=0 from aT) (by decide)
       .rename_i a';split at aT
        .exact absurd (show (16:J)=0 from aT) (by decide)
        .rename_i bu;rw[aw aY,aw a',aw bu];exact bO _ _ _ aT
    exact key _ _ _ _ h
   have dH:DG 0 [] []:=⟨rfl,λ_=>rfl,λs aO=>by simp at aO,λj s t aO=>by simp at aO,λs aO=>by simp at aO,λj s aO=>by simp at aO,λj s aO=>by simp at aO⟩;obtain⟨⟨t,cr,wj⟩,iK,W'⟩:=aeT e 0 [] [] (lp e 0 [] []).1 dH (Prod.ext rfl (Prod.ext ab h));rw[qj]at cr;refine⟨by omega,by omega,by rw[cr,wj],λj x aj=> ?_,?_⟩
   .have:=iK j x aj;rwa [ql]at this
   .have:=W' (by omega);rwa [ql]at this
section
variable {P:Program} {ops:Array Oper} {md:Region.Mode} {C:ag->Prop}
def Oo(P:Program)(md:Region.Mode)(ops:Array Oper)(C:ag->Prop)(n:aa)(T:Array Bool->Act->Prop):aa->Array Bool->Act->Prop
 |0,listed,a=>T listed a
 |f+1,listed,a=>Region.ready md ops listed≠[]/\∀i∈Region.ready md ops listed,i<n/\qOp P ops C i (Oo P md ops C n T f (listed.setIfInBounds i true)) a
theorem aft{n g:aa}{T:Array Bool->Act->Prop}{Q':Exit->Act->ag->Prop}(bT:∀listed a w,C w->T listed a->wpAny P md ops Q' g listed a w):
  ∀(f:aa)(listed:Array Bool)(a:Act)(w:ag),C w->Oo P md ops C n T f listed a->wpAny P md ops Q' (f+g) listed a w
 |0,listed,a,w,hw,h=>by rw[ql];exact bT _ _ _ hw h
 |f+1,listed,a,w,hw,h=>by
  rw[show f+1+g=(f+g)+1 by omega];exact⟨λar=>absurd ar h.1,λi aD=>wpOp_of_qOp hw (λfI w' s_ ec=>aft bT f _ fI w' s_ ec) (h.2 i aD).2⟩
def aqK{n i:aa}{nv:Oper}{v:ak}{T:Array Bool->Act->Prop}(aD:ops[i]?=some nv)(rB:∀(j:aa)(o:Oper)cs b,ops[j]?=some o->o.op≠ .select cs b)(aO:Region.sinkB md ops n=true)(aq:Region.chainB md ops n=true)(aH:n<ops.size)(dG:i<n)(l6:∀listed a,T listed a->∀j∈Region.ready md ops listed,n<=j):
  ∀(f:aa)(listed:Array Bool)(a:Act),HeadInv md ops n listed->
   (∀j nw,ops[j]?=some nw->j≠i->listed.getD j true=false->(∀e∈nw.after,Region.binds md e=true->e.on≠i)->nv.apart ops nw=true)->
   i∈Region.ready md ops listed->YieldsIn P ops C nv v a->
   Oo P md ops C n T f (listed.setIfInBounds i true) (a.put nv.dst v)->Oo P md ops C n T (f+1) listed a:=by
 intro f;induction f with
 |zero=>
  intro listed a inv _ aC bZ H;have tZ:=(mem_ready.1 aC).1;refine⟨λh=>(by rw[h]at aC;cases aC),λj ay=> ?_⟩;have Aw:j<n:=by
   rcases rT j n with h|h
   .exact h
   .exact absurd ay (tail_waits aO aq aH inv _ i rfl dG tZ j h)
  refine⟨Aw,?_⟩;by_cases hH:j=i
  .subst hH;exact bZ.qOp aD H
  .have:=l6 _ _ H j (Ki ay hH);omega
 |succ f bO=>
  intro listed a inv MT aC bZ H;have tZ:=(mem_ready.1 aC).1;refine⟨λh=>(by rw[h]at aC;cases aC),λj ay=> ?_⟩;have Aw:j<n:=by
   rcases rT j n with h|h
   .exact h
   .exact absurd ay (tail_waits aO aq aH inv _ i rfl dG tZ j h)
  refine⟨Aw,?_⟩;by_cases hH:j=i
  .subst hH;exact bZ.qOp aD H
  .have ab:=(H.2 j (Ki ay hH)).2;obtain⟨M3,nw,Gx,iK⟩:=mem_ready.1 ay;have Gu:∀e∈nw.after,Region.binds md e=true->e.on≠i:=λe he af heq=>by
    have ab:=iK e he af;rw[heq,getD_both tZ]at ab
    cases ab
   have ad:=qOp_put Gx (MT j nw Gx hH M3 Gu) (λcs b=>rB i nv cs b aD) (λcs b=>rB j nw cs b Gx) bZ ab;have WW:∀k ok,ops[k]?=some ok->k≠i->(listed.setIfInBounds j true).getD k true=false->
     (∀e∈ok.after,Region.binds md e=true->e.on≠i)->nv.apart ops ok=true:=λk ok ai lF tZ fK=>by
    refine MT k ok ai lF ?_ fK;by_cases Eb:j=k
    .subst Eb;exact M3
    .rw[getD_set_ne true Eb]at tZ;exact tZ
   refine qOp_mono (λfI ao=>bO (listed.setIfInBounds j true) fI (inv.set ay Aw) WW (Ki aC (vB hH)) ao.1 ?_) ad;rw[Array.setIfInBounds_comm _ _ hH];exact ao.2
theorem afs{n g:aa}{UW:Act->Prop}(rB:Region.noSelect ops=true)(aO:Region.sinkB md ops n=true)(aq:Region.chainB md ops n=true)(aH:n<ops.size):
  ∀(l:List Oper)(k:aa)(listed:Array Bool)(a:Act),(∀j,j<l.length->l[j]?=ops[k+j]?)->k+l.length=n->HeadInv md ops n listed->
  Region.lexHead md ops g l k listed=true->wpQuiet P ops C UW l a->
  Oo P md ops C n (λada fI=>Region.seqB md ops g n ada=true/\UW fI) l listed a
 |[],k,listed,a,_,ai,_,bc,h=>by
  have:k=n:=by simpa using ai
  subst this;exact⟨by simpa[Region.lexHead] using bc,h⟩
 |o::l,k,listed,a,av,ai,inv,bc,h=>by
  have ar:ops[k]?=some o:=by simpa using (av 0 (by simp)).symm
  simp only[hi,Region.lexHead,nB]at bc;obtain⟨⟨aC,bV⟩,Mj⟩:=bc;have l8:k<n:=by simp only[hi]at ai;omega
  have u_:k∈Region.ready md ops listed:=by simpa using aC
  have dH:qOp P ops C k (wpQuiet P ops C UW l) a:=by unfold qOp;simp only[ar];exact h
  obtain⟨v,bZ,ax⟩:=yieldsIn_of_qOp ar dH;exact aqK ar (Region.noSelect_spec rB) aO aq aH l8 (λada fI bE=>seqB_ready bE.1) l listed a inv (Region.free_spec ar bV) u_ bZ
   (afs rB aO aq aH l (k+1) _ _ (λj ay=>by have:=av (j+1) (by simp;omega);simpa[Hl,Nat.add_comm 1 j] using this) (by simp only[hi]at ai;omega) (inv.set u_ l8) Mj ax)
def aqN{id:aa}{Q:Exit->Act->ag->Prop}{a:Act}{w:ag}{l:List Oper}(n:aa)(hm:P.follows .mixedOrders=true)(bc:Region.lexTailB .any l.toArray n=true)(hC:C {w with drawn:=w.drawn+1})(h:wpQuiet P l.toArray C (λfI=>∀w',C w'->wpList P l.toArray Q (l.drop n) fI w') (l.take n) a):(Code.region id l.toArray true).wp P Q a w:=by
 simp only[Region.lexTailB,nB,gg]at bc;obtain⟨⟨⟨⟨rB,aH⟩,aO⟩,aq⟩,akl⟩:=bc;have hn':n<l.length:=by simpa using aH
 have wj:(l.take n).length=n:=by simp;omega
 have y3:(l.drop n).length=l.toArray.size-n:=by simp
 have alH:HeadInv .any l.toArray n (Array.replicate l.toArray.size false):=
  ⟨by simp,λj nw _ av=>(by rw[getD_replicate_false]at av;cases av),λt _ cr=>getD_in (by simpa using cr) (getD_replicate_false _ _)⟩
 have H:=afs (md:= .any) (g:=l.toArray.size-n) rB aO aq aH (l.take n) 0 _ a (λj ay=>by
  have pn:j<n:=by rw[wj]at ay;exact ay
  simp[pn]) (by simpa using wj) alH (by rw[wj];exact akl) h
 refine wp_region_any hm ?_;have:=aft (Q':=Q) (g:=l.toArray.size-n) (λlisted fI w' s_ bE=>by
  have:=wpAny_of_seq (md:= .any) (Q':=Q) (l.drop n) n listed fI w' (λj=>by simp[Kb]) (by rw[y3];exact bE.1) (bE.2 w' s_);rwa [y3]at this) _ _ _ _ hC H
 rw[wj,show n+(l.toArray.size-n)=l.toArray.size by omega]at this;exact this
end
def wH{P:Program}{id:aa}{Q:Exit->Act->ag->Prop}{a:Act}{w:ag}{l:List Oper}(n:aa)(hm:P.follows .mixedOrders=true)(bc:Region.lexTailB .any l.toArray n=true)(h:wpQuiet P l.toArray (λw'=>∃x:aS w,w'=x.W) (λfI=>∀w',(∃x:aS w,w'=x.W)->wpList P l.toArray Q (l.drop n) fI w') (l.take n) a):(Code.region id l.toArray true).wp P Q a w:=
 aqN (C:=λw'=>∃x:aS w,w'=x.W) n hm bc ⟨⟨w.drew,(aG w).drew⟩,rfl⟩ h
def dJ(l:aW)(i:aa):J:=l[i]?.getD 0
def pB(l:aW)(i j:aa):aW:=(l.set i (dJ l j)).set j (dJ l i)
def xT:aa->List J->aa->List J
 |0,l,_=>l
 |F+1,l,j=>if (j-1)/2=j\/¬dJ l j<dJ l ((j-1)/2)then l else xT F (pB l ((j-1)/2) j) ((j-1)/2)
def xj(l:aW)(i n:aa):aa:=if 2*i+2<n/\dJ l (2*i+2)<dJ l (2*i+1)then 2*i+2 else 2*i+1
def uM:aa->List J->aa->aa->List J
 |0,l,_,_=>l
 |F+1,l,i,n=>if n<=2*i+1\/¬dJ l (xj l i n)<dJ l i then l else uM F (pB l i (xj l i n)) (xj l i n) n
def zt(l:aW)(x:J):aW:=xT (l.length+1) (l++[x]) l
def xO(l:aW):aW:=uM l (pB l 0 (l.length-1)) 0 (l.length-1)
def uc(l:aW):J:=dJ (xO l) (l.length-1)
def vk(l:aW):aW:=(xO l).take (l.length-1)
def rL(l:aW)(i j:aa):(pB l i j).length=l.length:=by unfold pB;rw[gJ,gJ]
def Zk{l:aW}{i j:aa}(aD:i<l.length)(ay:j<l.length):(pB l i j).Perm l:=by
 unfold pB dJ;rw[bn aD,bn ay,b9,b9];exact List.set_set_perm aD ay
def aqr:∀(F:aa)(l:aW)(j:aa),(xT F l j).length=l.length:=by
 intro F;induction F with
 |zero=>intro l j;rfl
 |succ F bO=>
  intro l j;unfold xT;split
  .rfl
  .rw[bO,rL]
def aqs:∀(F:aa)(l:aW)(j:aa),j<l.length->(xT F l j).Perm l:=by
 intro F;induction F with
 |zero=>intro l j _;exact Tw _
 |succ F bO=>
  intro l j ay;unfold xT;split
  .exact Tw _
  .exact (bO _ _ (by rw[rL];omega)).trans (Zk (by omega) ay)
def ahM{l:aW}{i n:aa}(h:¬n<=2*i+1):xj l i n<n/\i<xj l i n:=by
 unfold xj;split<;>omega
def aiS:∀(F:aa)(l:aW)(i n:aa),(uM F l i n).length=l.length:=by
 intro F;induction F with
 |zero=>intro l i n;rfl
 |succ F bO=>
  intro l i n;unfold uM;split
  .rfl
  .rw[bO,rL]
def aiT:∀(F:aa)(l:aW)(i n:aa),n<=l.length->(uM F l i n).Perm l:=by
 intro F;induction F with
 |zero=>intro l i n _;exact Tw _
 |succ F bO=>
  intro l i n aH;unfold uM;split
  .exact Tw _
  .rename_i h;have aq:=ahM (l:=l) (i:=i) (n:=n) (λec=>h (.inl ec));exact (bO _ _ _ (by rw[rL];exact aH)).trans (Zk (by omega) (by omega))
def SB(l:aW)(x:J):(zt l x).Perm (x::l):=
 (aqs _ _ _ (by simp)).trans (List.perm_append_singleton x l)
def ad6(l:aW)(x:J):(zt l x).length=l.length+1:=by rw[(SB l x).length_eq];rfl
def JN(l:aW):(xO l).length=l.length:=by unfold xO;rw[aiS,rL]
def anG(l:aW):(vk l).length=l.length-1:=by unfold vk;rw[gT,JN];omega
def ad1{l:aW}(h:0<l.length):l.Perm (uc l::vk l):=by
 have ab:(xO l).Perm l:=(aiT _ _ _ _ (by rw[rL];omega)).trans (Zk h (by omega));refine ab.symm.trans ?_;have av:=JN l;have ad:xO l=vk l++[uc l]:=by
  apply A8;intro k;unfold vk uc dJ;rcases Kc k (l.length-1)with ai|ai|ai
  .rw[lQ (by rw[gT];omega),tv ai]
  .subst ai;rw[k4 (by rw[gT];omega),gT,av,x5 (by omega),k7,bn (by omega)];rfl
  .rw[lR (by omega),lR (by rw[fk,gT,sy];omega)]
 rw[ad];exact List.perm_append_singleton _ _
def AO:∀(n:aa)(l:aW),l.Nodup->h8 n l->l.length<=n:=by
 intro n;induction n with
 |zero=>
  intro l _ h
  cases l with
  |nil=>exact bB _
  |cons a l=>have:=h a (o2 ..);omega
 |succ n bO=>
  intro l aH h;have ab:=bO (l.erase (n:J)) (aH.erase _) (λe he=>by
   obtain⟨ad,ao⟩:=aH.mem_erase_iff.1 he;have:=h e ao;omega)
  by_cases hm:(n:J)∈l
  .rw[ZQ hm]at ab;omega
  .rw[List.erase_of_not_mem hm]at ab;omega
def vV(d:J):aW->List aW->List aW
 |[],us=>us
 |e::es,us=>vV d es (us.set e.toNat ((us[e.toNat]?.getD [])++[d]))
def C4:List aW->aa->List aW->List aW
 |[],_,us=>us
 |l::ls,d,us=>C4 ls (d+1) (vV d l us)
def vn:List aW->aa->List J->List J
 |[],_,rd=>rd
 |l::ls,d,rd=>vn ls (d+1) (if l.length=0 then zt rd d else rd)
def qU:aW->List J->List J->List J×List J
 |[],wt,rd=>(wt,rd)
 |u::us,wt,rd=>qU us (wt.set u.toNat (dJ wt u.toNat-1)) (if dJ wt u.toNat-1=0 then zt rd u else rd)
def GL(us:List aW):aa->List J->List J->List J->List J
 |0,_,_,o=>o
 |F+1,wt,rd,o=>if rd.length=0 then o else GL us F (qU (us[(uc rd).toNat]?.getD []) wt (vk rd)).1 (qU (us[(uc rd).toNat]?.getD []) wt (vk rd)).2 (o++[uc rd])
def vu(b':List aW):List aW:=C4 b' 0 (List.replicate b' [])
def A3(b':List aW):aW:=b'.map λl=>(l.length:J)
def ox(b':List aW):aW:=GL (vu b') (b'.length+1) (A3 b') (vn b' 0 []) []
def agT(d:J):∀(es:aW)(us:List aW),(vV d es us).length=us.length:=by
 intro es;induction es with
 |nil=>intro us;rfl
 |cons e es bO=>intro us;rw[vV,bO,gJ]
def agS(d:J):∀(es:aW)(us:List aW),es.Nodup->h8 us es->∀k:aa,k<us.length->(vV d es us)[k]?.getD []=us[k]?.getD []++(if (k:J)∈es then [d]else []):=by
 intro es;induction es with
 |nil=>intro us _ _ k _;simp[vV]
 |cons e es bO=>
  intro us aH aJ k ai;obtain⟨jL,mA⟩:=zD.1 aH;obtain⟨he0,I'⟩:=aJ e (o2 ..);rw[vV,bO _ mA (by rw[gJ];exact λx aj=>aJ x (qY _ aj)) k (by rw[gJ];exact ai),x2];by_cases WU:e.toNat=k
  .have hke:(k:J)=e:=by omega
   rw[aP WU,aP (by omega),b9,hke,aw jL,aP (o2 ..),hj,WU]
  .rw[aw WU];congr 1;have bU:(k:J)≠e:=by omega
   simp[bU]
def aqt:∀(ls:List aW)(d n:aa)(us:List aW),us.length=n->(∀l∈ls,l.Nodup/\h8 n l)->∀k:aa,k<n->(us[k]?.getD []).Nodup->(∀u∈us[k]?.getD [],u<d)->
  ((C4 ls d us)[k]?.getD []).Nodup/\∀u:J,u∈(C4 ls d us)[k]?.getD []↔u∈us[k]?.getD []\/((d:J)<=u/\(k:J)∈ls[(u-d).toNat]?.getD []):=by
 intro ls;induction ls with
 |nil=>intro d n us _ _ k _ iA _;exact⟨iA,λu=>by simp[C4]⟩
 |cons l ls bO=>
  intro d n us av ru k ai iA aN;obtain⟨ab,ad⟩:=ru l (o2 ..);have dK:=agS (d:J) l us ab (by rw[av];exact ad) k (by omega);obtain⟨g1,g2⟩:=bO (d+1) n (vV d l us) (by rw[agT,av]) (λx aj=>ru x (qY _ aj)) k ai (by
   rw[dK];split
   .rw[Dc];refine⟨iA,by simp,λa bD b af=> ?_⟩;rw[kb]at af;have:=aN a bD;omega
   .rw[hj];exact iA) (λu hu=>by
   rw[dK,k5]at hu;rcases hu with hu|hu
   .have:=aN u hu;omega
   .split at hu
    .rw[kb]at hu;omega
    .cases hu)
  rw[C4];refine⟨g1,λu=> ?_⟩;rw[g2 u,dK,k5];constructor
  .rintro ((h|h)|⟨h,ec⟩)
   .exact .inl h
   .split at h
    .rename_i fu;rw[kb]at h;subst h;refine .inr ⟨wI _,?_⟩;rw[Tq];exact fu
    .cases h
   .refine .inr ⟨by omega,?_⟩;rw[show (u-(d:J)).toNat=(u-((d+1:aa):J)).toNat+1 by omega,jd];exact ec
  .rintro (h|⟨h,ec⟩)
   .exact .inl (.inl h)
   .by_cases zc:u=d
    .subst zc;rw[Tq]at ec;have fu:(k:J)∈l:=ec;exact .inl (.inr (by rw[aP fu];simp))
    .rw[show (u-(d:J)).toNat=(u-((d+1:aa):J)).toNat+1 by omega,jd]at ec;exact .inr ⟨by omega,ec⟩
def afi{b':List aW}{n:aa}(aH:b'.length=n)(ru:∀l∈b',l.Nodup/\h8 n l)(k:aa)(ai:k<n):
  ((vu b')[k]?.getD []).Nodup/\∀u:J,u∈(vu b')[k]?.getD []↔0<=u/\(k:J)∈b'[u.toNat]?.getD []:=by
 have ar:(List.replicate b' ([]:aW))[k]?.getD []=[]:=by rw[uj];split<;>rfl
 obtain⟨ab,ad⟩:=aqt b' 0 n (List.replicate b' []) (by rw[iQ,aH]) ru k ai (by rw[ar];exact Tv) (by rw[ar];intro u hu;cases hu);refine⟨ab,λu=> ?_⟩;unfold vu;rw[ad,ar];simp
def IQ{l:aW}{k:aa}(h:k<l.length)(x:J):dJ (l.set k x) k=x:=by unfold dJ;rw[uk h];rfl
def Ma{l:aW}{k j:aa}(h:k≠j)(x:J):dJ (l.set k x) j=dJ l j:=by unfold dJ;rw[wK h]
def anX:∀(us wt rd:aW),us.Nodup->h8 wt us->(qU us wt rd).1.length=wt.length/\
  (∀u:J,0<=u->dJ (qU us wt rd).1 u.toNat=dJ wt u.toNat-if u∈us then 1 else 0)/\(qU us wt rd).2.Perm (rd++us.filter λu=>decide (dJ wt u.toNat=1)):=by
 intro us;induction us with
 |nil=>intro wt rd _ _;exact⟨rfl,λu _=>by simp[qU],by simp[qU]⟩
 |cons a us bO=>
  intro wt rd aH aJ;obtain⟨jL,mA⟩:=zD.1 aH;obtain⟨MC,WH⟩:=aJ a (o2 ..);have Eg:∀x∈us,0<=x/\x<wt.length:=λx aj=>aJ x (qY _ aj);obtain⟨ab,ad,ao⟩:=bO (wt.set a.toNat (dJ wt a.toNat-1)) (if dJ wt a.toNat-1=0 then zt rd a else rd) mA (by rw[gJ];exact Eg);rw[qU];refine⟨by rw[ab,gJ],λu hu=> ?_,ao.trans ?_⟩
  .rw[ad u hu];by_cases hua:u=a
   .subst hua;rw[IQ (by omega),aw jL,aP (o2 ..),Int.sub_zero]
   .rw[Ma (by omega)];congr 1;simp[hua]
  .have bV:us.filter (λu=>decide (dJ (wt.set a.toNat (dJ wt a.toNat-1)) u.toNat=1))=us.filter (λu=>decide (dJ wt u.toNat=1)):=by
    refine E3 λx aj=> ?_;have bU:x≠a:=λe=>jL (e▸aj);have:=Eg x aj;rw[Ma (by omega)]
   rw[bV,sA];by_cases hw:dJ wt a.toNat=1
   .rw[aP (by omega),aP (by simp[hw])];refine ((SB rd a).append_right _).trans ?_;exact (List.perm_middle (a:=a) (l₁:=rd) (l₂:=us.filter λu=>decide (dJ wt u.toNat=1))).symm
   .rw[aw (by omega),aw (by simp[hw])]
def BP(P l:aW):aa:=(l.filter λe=>decide (e∉P)).length
def aiu{d:J}{P:aW}(aE:d∉P):∀(l:aW),l.Nodup->BP (P++[d]) l+(if d∈l then 1 else 0)=BP P l:=by
 intro l;unfold BP;induction l with
 |nil=>intro _;rfl
 |cons a l bO=>
  intro aH;obtain⟨jL,mA⟩:=zD.1 aH;have:=bO mA;by_cases MD:a=d
  .subst MD;rw[aw jL]at this;rw[aP (o2 ..),sA,sA,aw (by simp),aP (by simp[aE]),hi];omega
  .have aQ:(decide (a∉P++[d]))=decide (a∉P):=by simp[MD]
   have a_:(d∈a::l)↔d∈l:=by
    rw[fM];exact⟨λh=>h.resolve_left (λe=>MD e.symm),.inr⟩
   rw[sA,sA,aQ];simp only[a_];split<;>(try rw[hi])<;>(try rw[hi])<;>omega
def abr{P l:aW}:BP P l=0↔∀e∈l,e∈P:=by
 unfold BP;rw[oC,List.filter_eq_nil_iff];exact⟨λh e he=>by have:=h e he;simpa using this,λh e he=>by simp[h e he]⟩
structure Dw(b':List aW)(n:aa)(P wt rd:aW):Prop where
 dz:(P++rd).Nodup
 inr:h8 n (P++rd)
 wl:wt.length=n
 Qd:∀u:J,0<=u->u<n->dJ wt u.toNat=BP P (b'[u.toNat]?.getD [])
 zero:∀u:J,0<=u->u<n->(u∈P++rd↔dJ wt u.toNat=0)
 top:∀(p s:aW)(d:J),P=p++d::s->∀e∈b'[d.toNat]?.getD [],e∈p
def Dw.step{b':List aW}{n:aa}{P wt rd:aW}(h:Dw b' n P wt rd)(aH:b'.length=n)(ru:∀l∈b',l.Nodup/\h8 n l)(aC:0<rd.length):
  Dw b' n (P++[uc rd]) (qU ((vu b')[(uc rd).toNat]?.getD []) wt (vk rd)).1 (qU ((vu b')[(uc rd).toNat]?.getD []) wt (vk rd)).2:=by
 have hp:=ad1 aC;generalize uc rd=d at*;generalize vk rd=ny at*;have Aq:d∈rd:=hp.mem_iff.2 (o2 ..);obtain⟨kF,hf⟩:=h.inr d (Hi _ Aq);have ME:∀u:J,(b'[u.toNat]?.getD []).Nodup/\h8 n (b'[u.toNat]?.getD []):=λu=>by
  cases al:b'[u.toNat]? with
  |none=>exact⟨Tv,λe he=>by cases he⟩
  |some l=>exact ru l (fe al)
 obtain⟨zb,tY⟩:=afi aH ru d.toNat (by omega);have Cf:((d.toNat:aa):J)=d:=by omega
 rw[Cf]at tY;generalize (vu b')[d.toNat]?.getD []=us at*;have XM:h8 n us:=λu hu=>by
  obtain⟨g1,g2⟩:=(tY u).1 hu;refine⟨g1,?_⟩;rcases rT u.toNat b' with aN|nI
  .omega
  .rw[lR nI]at g2
   cases g2
 obtain⟨hh,iC,kY⟩:=anX us wt ny zb (by rw[h.wl];exact XM);have acy:(P++d::ny).Nodup:=(hp.append_left P).nodup_iff.1 h.dz;obtain⟨e9,eC,ia⟩:=Dc.1 acy;obtain⟨wz,CL⟩:=zD.1 eC;have hdP:d∉P:=λaT=>ia d aT d (o2 ..) rfl;have bP:∀u:J,0<=u->u<n->(u∈P\/u=d\/u∈ny↔dJ wt u.toNat=0):=λu ar ab=>by
  rw[<-h.zero u ar ab,k5,hp.mem_iff,fM]
 have wi:∀u:J,0<=u->u<n->dJ wt u.toNat=0->∀e∈b'[u.toNat]?.getD [],e∈P:=λu ar ab hw=>by
  rw[h.Qd u ar ab]at hw;exact abr.1 (by omega)
 have Gu:∀u:J,0<=u->u<n->dJ wt u.toNat=0->u∉us:=λu ar ab hw hu=>hdP (wi u ar ab hw d ((tY u).1 hu).2);have mR:∀u:J,u∈(qU us wt ny).2↔u∈ny\/(u∈us/\dJ wt u.toNat=1):=λu=>by
  rw[kY.mem_iff,k5,uq,gg]
 refine⟨?_,?_,hh.trans h.wl,λu ar ab=> ?_,λu ar ab=> ?_,λp s x eJ=> ?_⟩
 .have aQ:((P++[d])++(qU us wt ny).2).Perm ((P++d::ny)++us.filter λu=>decide (dJ wt u.toNat=1)):=by
   refine (kY.append_left (P++[d])).trans (List.Perm.of_eq ?_);simp
  refine aQ.nodup_iff.2 (Dc.2 ⟨acy,zb.filter _,λa bD b af e=> ?_⟩);subst e;rw[uq,gg]at af;obtain⟨kD,c9⟩:=XM a af.1;rw[k5,fM]at bD;have:=(bP a kD c9).1 bD;omega
 .intro u hu;rw[k5,k5,kb,mR]at hu;rcases hu with (hu|hu)|hu|hu
  .exact h.inr u (Ow _ hu)
  .exact hu▸⟨kF,hf⟩
  .exact h.inr u (Hi _ (hp.mem_iff.2 (qY _ hu)))
  .exact XM u hu.1
 .rw[iC u ar,h.Qd u ar ab];have ad:=aiu hdP _ (ME u).1;have ao:(u∈us)↔d∈b'[u.toNat]?.getD []:=by rw[tY];exact⟨λh=>h.2,λh=>⟨ar,h⟩⟩
  by_cases hu:u∈us
  .rw[aP hu];rw[aP (ao.1 hu)]at ad;omega
  .rw[aw hu];rw[aw (λaT=>hu (ao.2 aT))]at ad;omega
 .rw[iC u ar,k5,k5,kb,mR];have aR:=bP u ar ab;constructor
  .rintro ((hu|hu)|hu|⟨hu,hw⟩)
   .have hw:=aR.1 (.inl hu);rw[aw (Gu u ar ab hw)];omega
   .have hw:=aR.1 (.inr (.inl hu));rw[aw (Gu u ar ab hw)];omega
   .have hw:=aR.1 (.inr (.inr hu));rw[aw (Gu u ar ab hw)];omega
   .rw[aP hu];omega
  .intro hw;by_cases hu:u∈us
   .rw[aP hu]at hw;exact .inr (.inr ⟨hu,by omega⟩)
   .rw[aw hu]at hw;rcases aR.2 (by omega)with bw|bw|bw
    .exact .inl (.inl bw)
    .exact .inl (.inr bw)
    .exact .inr (.inl bw)
 .intro e he;rcases List.eq_nil_or_concat s with rfl|⟨s',y,rfl⟩
  .obtain⟨rfl,aj⟩:=List.append_inj' eJ rfl;obtain rfl:d=x:=by simpa using aj
   exact wi d kF hf ((bP d kF hf).1 (.inr (.inl rfl))) e he
  .have hP':P++[d]=(p++x::s')++[y]:=by rw[eJ];simp
   obtain⟨bw,-⟩:=List.append_inj' hP' rfl;exact h.top p s' x bw e he
def alM{b':List aW}{n:aa}(aH:b'.length=n)(ru:∀l∈b',l.Nodup/\h8 n l):∀(F:aa)(P wt rd:aW),Dw b' n P wt rd->n<F+P.length->∃mE,Dw b' n (GL (vu b') F wt rd P) mE []:=by
 intro F;induction F with
 |zero=>
  intro P wt rd h hF;have:=AO n P (Dc.1 h.dz).1 (λe he=>h.inr e (Ow _ he));omega
 |succ F bO=>
  intro P wt rd h hF;unfold GL;by_cases aC:rd.length=0
  .rw[aP aC];obtain rfl:=oC.1 aC;exact⟨wt,h⟩
  .rw[aw aC];exact bO _ _ _ (h.step aH ru (by omega)) (by rw[fk,sy];omega)
def anM:∀(ls:List aW)(d:aa)(rd:aW),rd.Nodup->(∀u∈rd,u<d)->(vn ls d rd).Nodup/\∀u:J,u∈vn ls d rd↔u∈rd\/((d:J)<=u/\ls[(u-d).toNat]?=some []):=by
 intro ls;induction ls with
 |nil=>intro d rd h _;exact⟨h,λu=>by simp[vn]⟩
 |cons l ls bO=>
  intro d rd h aN;have aE:(d:J)∉rd:=λaT=>by have:=aN _ aT;omega
  have hm:∀u:J,u∈(if l.length=0 then zt rd d else rd)↔u∈rd\/(u=d/\l=[]):=λu=>by
   split
   .rename_i ar;rw[(SB rd d).mem_iff,fM];exact⟨λaT=>aT.elim (λe=> .inr ⟨e,oC.1 ar⟩) .inl,λaT=>aT.elim .inr (λe=> .inl e.1)⟩
   .rename_i ar;exact⟨.inl,λaT=>aT.resolve_right (λe=>ar (by rw[e.2];rfl))⟩
  obtain⟨g1,g2⟩:=bO (d+1) (if l.length=0 then zt rd d else rd) (by
   split
   .exact (SB rd d).nodup_iff.2 (zD.2 ⟨aE,h⟩)
   .exact h) (λu hu=>by
   rcases (hm u).1 hu with ad|⟨ad,-⟩
   .have:=aN u ad;omega
   .omega)
  rw[vn];refine⟨g1,λu=> ?_⟩;rw[g2,hm];constructor
  .rintro ((ad|⟨ad,ao⟩)|⟨ad,ao⟩)
   .exact .inl ad
   .refine .inr ⟨by omega,?_⟩;rw[ad,Tq,ao];rfl
   .refine .inr ⟨by omega,?_⟩;rw[show (u-(d:J)).toNat=(u-((d+1:aa):J)).toNat+1 by omega,jd];exact ao
  .rintro (ad|⟨ad,ao⟩)
   .exact .inl (.inl ad)
   .by_cases zc:u=d
    .subst zc;rw[Tq]at ao;exact .inl (.inr ⟨rfl,cJ ao⟩)
    .rw[show (u-(d:J)).toNat=(u-((d+1:aa):J)).toNat+1 by omega,jd]at ao;exact .inr ⟨by omega,ao⟩
def ac0{b':List aW}{n:aa}(aH:b'.length=n):Dw b' n [] (A3 b') (vn b' 0 []):=by
 obtain⟨ab,ad⟩:=anM b' 0 [] Tv (λu hu=>by cases hu);have hw:∀u:J,0<=u->u<n->dJ (A3 b') u.toNat=((b'[u.toNat]?.getD []).length:aa):=λu ar ao=>by
  unfold dJ A3;rw[hS,bn (show u.toNat<b'.length by omega)];rfl
 have hm:∀u:J,u∈vn b' 0 []↔0<=u/\b'[u.toNat]?=some []:=λu=>by rw[ad];simp
 refine⟨by rw[qj];exact ab,λu hu=> ?_,by unfold A3;rw[er,aH],λu ar ao=> ?_,λu ar ao=> ?_,λp s d eJ=> ?_⟩
 .rw[qj,hm]at hu;have:=(b2 hu.2).1;omega
 .rw[hw u ar ao];unfold BP;rw[List.filter_eq_self.2 (λe _=>by simp)]
 .rw[qj,hm,hw u ar ao,bn (show u.toNat<b'.length by omega)];simp[ar]
 .simp at eJ
def alL{b':List aW}{n:aa}{P wt:aW}(h:Dw b' n P wt [])(ru:∀d:J,h8 n (b'[d.toNat]?.getD []))(ph:∀d:J,¬pc b' d d):∀u:J,0<=u->u<n->u∈P:=by
 intro u ar ab;refine OA.1 λhu=> ?_;have key:∀k:aa,∃(a:J)(c:aW),c.length=k/\(a::c).Nodup/\h8 n (a::c)/\a∉P/\∀x∈c,pc b' x a:=by
  intro k;induction k with
  |zero=>exact⟨u,[],rfl,by simp,λe he=>by rw[kb]at he;exact he▸⟨ar,ab⟩,hu,λx aj=>by cases aj⟩
  |succ k bO=>
   obtain⟨a,c,av,iA,aJ,bD,aC⟩:=bO;obtain⟨a0,eS⟩:=aJ a (o2 ..);have hw:¬dJ wt a.toNat=0:=λaT=>bD (by have:=(h.zero a a0 eS).2 aT;rwa [hj]at this);rw[h.Qd a a0 eS]at hw;have bU:¬∀e∈b'[a.toNat]?.getD [],e∈P:=λaT=>hw (by rw[abr.2 aT];rfl);obtain⟨e,he⟩:=Classical.not_forall.1 bU;obtain⟨I',Gl⟩:=Classical.not_imp.1 he;have iK:∀x∈a::c,pc b' x e:=λx aj=>by
    rcases fM.1 aj with rfl|aj
    .exact .one I'
    .exact .step (aC x aj) I'
   refine⟨e,a::c,by rw[hi,av],zD.2 ⟨λaT=>ph e (iK e aT),iA⟩,λx aj=> ?_,Gl,iK⟩;rcases fM.1 aj with rfl|aj
   .exact ru a _ I'
   .exact aJ x aj
 obtain⟨a,c,av,iA,aJ,-⟩:=key n;have:=AO n _ iA aJ;rw[hi]at this;omega
def YM{b':List aW}{n:aa}(aH:b'.length=n)(ru:∀l∈b',l.Nodup/\h8 n l)(ph:∀d:J,¬pc b' d d):
  (ox b').Nodup/\h8 n (ox b')/\(∀u:J,0<=u->u<n->u∈ox b')/\∀(p s:aW)(d:J),ox b'=p++d::s->∀e∈b'[d.toNat]?.getD [],e∈p:=by
 obtain⟨wt,h⟩:=alM aH ru (b'.length+1) [] (A3 b') (vn b' 0 []) (ac0 aH) (by rw[aH];simp);have aE:∀d:J,h8 n (b'[d.toNat]?.getD []):=λd=>by
  cases al:b'[d.toNat]? with
  |none=>exact λe he=>by cases he
  |some l=>exact (ru l (fe al)).2
 have ab:=h.dz;have ad:=h.inr;rw[hj]at ab ad;exact⟨ab,ad,alL h aE ph,h.top⟩
def St{b':List aW}{n:aa}(aH:b'.length=n)(ru:∀l∈b',l.Nodup/\h8 n l)(ph:∀d:J,¬pc b' d d):(ox b').length=n:=by
 obtain⟨ab,ad,ao,-⟩:=YM aH ru ph;refine Nat.le_antisymm (AO n _ ab ad) ?_;have key:∀m:aa,m<=n->∀l:aW,(∀u:J,0<=u->u<m->u∈l)->m<=l.length:=by
  intro m;induction m with
  |zero=>intro _ l _;exact d' _
  |succ m bO=>
   intro hm l av;have gp:(m:J)∈l:=av m (by omega) (by omega);have:=bO (by omega) (l.erase (m:J)) (λu ar aR=>(List.mem_erase_of_ne (by omega)).2 (av u ar (by omega)));rw[ZQ gp]at this;have:=ZR gp;omega
 exact key n (bB _) _ ao
structure cl where
 k:J
 dp:J
 m:J
 cQ:J
 cf:J
 v:bC
structure q2 where
 refs:J->J->List (J×J)
 val:J->J->bC
 nS:J->J->J
 inp:J->J->bC
 dt:J
 aM:aa
def rC(m d:J)(n:cl):Bool:=decide (n.k=1/\n.m=m/\n.cQ=d)
def gf(ns:List cl)(m d:J):Bool:=ns.any (rC m d)
def qz(C:q2)(f:List cl->J->J->J->List cl)(m dp:J)(ns:List cl)(r:J×J):List cl:=
 if r.1=0 then ns++[⟨2,dp,m,r.2,-1,C.inp m r.2⟩]
 else if r.1=1 then f ns m r.2 dp
 else if r.1=2 then ns++[⟨4,dp,m,r.2,-1,⟨5,0,C.dt⟩⟩]
 else if r.1=3 then ns++[⟨3,dp,m,r.2,-1,v0⟩]
 else (List.range C.aM).foldl (λns(j:aa)=>f ns (j:J) r.2 dp) ns
def hJ(C:q2):aa->List cl->J->J->J->List cl
 |0,ns,_,_,_=>ns
 |F+1,ns,m,d,dp=>if gf ns m d=true then ns++[⟨5,dp,m,d,-1,C.val m d⟩]
  else (C.refs m d).foldl (qz C (hJ C F) m (dp+1)) (ns++[⟨1,dp,m,d,C.nS m d,C.val m d⟩])
def IP(a n:cl):Bool:=decide (1<=n.dp/\n.dp<=a.dp+1/\(n.dp<=a.dp\/a.k=1))
def rn(pre:List cl)(m d:J):Option bC:=(pre.find? (rC m d)).map (·.v)
def YL(pre:List cl)(n:cl):Prop:=(∀a,pre.getLast?=some a->IP a n=true)/\(1<=n.k/\n.k<=5)/\0<=n.cQ/\ -1<=n.m/\(n.k=1->0<=n.cf/\rn pre n.m n.cQ=none)/\(n.k≠1->n.cf= -1)/\(n.k=5->rn pre n.m n.cQ=some n.v)
def vw:List cl->List cl->Prop
 |_,[]=>True
 |pre,n::s=>YL pre n/\vw (pre++[n]) s
theorem afo:∀(a pre b:List cl),vw pre (a++b)↔vw pre a/\vw (pre++a) b
 |[],pre,b=>by simp[vw]
 |n::a,pre,b=>by
  rw[List.cons_append,vw,vw,afo a (pre++[n]) b,nY,J_,and_assoc]
def Gf{ns:List cl}{m d:J}:gf ns m d=true↔∃n∈ns,n.k=1/\n.m=m/\n.cQ=d:=by
 unfold gf rC;rw[To];simp only[gg]
def Gg{ns vp:List cl}{m d:J}(h:gf ns m d=true):gf (ns++vp) m d=true:=by
 rw[Gf]at h⊢;obtain⟨n,ab,ad⟩:=h;exact⟨n,by simp[ab],ad⟩
def ajc{ns:List cl}{m d:J}(h:gf ns m d=false):rn ns m d=none:=by
 unfold rn;rw[Option.map_eq_none_iff,List.find?_eq_none];intro n aH aT;have:gf ns m d=true:=by
  unfold gf;rw[To];exact⟨n,aH,aT⟩
 rw[h]at this
 cases this
def BC(C:q2)(G:J->J->Prop)(ns:List cl):Prop:=∀n∈ns,n.k=1->n.v=C.val n.m n.cQ/\n.cf=C.nS n.m n.cQ/\G n.m n.cQ
def aje{C:q2}{G:J->J->Prop}{ns:List cl}(c6:BC C G ns){m d:J}(h:gf ns m d=true):rn ns m d=some (C.val m d):=by
 unfold rn
 cases bV:ns.find? (rC m d)with
 |none=>
  exfalso;rw[List.find?_eq_none]at bV;unfold gf at h;rw[To]at h;obtain⟨n,ab,ad⟩:=h;exact bV n ab ad
 |some n=>
  have ab:=List.mem_of_find?_eq_some bV;have ad:=List.find?_some bV;unfold rC at ad;rw[gg]at ad;obtain⟨ao,aR,bw⟩:=ad;rw[qi,(c6 n ab ao).1,aR,bw]
def DQ(C:q2)(out:List cl)(m:J)(r:J×J):Prop:=(r.1=1->gf out m r.2=true)/\(r.1=4->∀j:aa,j<C.aM->gf out (j:J) r.2=true)
def DQ.mono{C:q2}{a vp:List cl}{m:J}{r:J×J}(h:DQ C a m r):DQ C (a++vp) m r:=⟨λab=>Gg (h.1 ab),λab j ay=>Gg (h.2 ab j ay)⟩
structure Good(C:q2)(G:J->J->Prop)(cS:J->J->aa):Prop where
 auG:∀m d,G m d->0<=d/\ -1<=m/\0<=C.nS m d
 ref:∀m d,G m d->∀r∈C.refs m d,0<=r.2/\0<=r.1/\r.1<=4/\(r.1=1->G m r.2/\cS m r.2<cS m d)/\(r.1=4->∀j:aa,j<C.aM->G (j:J) r.2/\cS (j:J) r.2<cS m d)
structure Ext(C:q2)(G:J->J->Prop)(dp:J)(ns out:List cl):Prop where
 vp:∃vp,out=ns++vp/\(∀n∈vp,dp<=n.dp)/\vw ns vp
 qd:BC C G out
 Qb:∀m d,gf out m d=true->gf ns m d=true\/∀r∈C.refs m d,DQ C out m r
def FC(ns:List cl)(dp:J):Prop:=∀a,ns.getLast?=some a->1<=dp/\dp<=a.dp+1/\(dp<=a.dp\/a.k=1)
section
variable {C:q2} {G:J->J->Prop} {cS:J->J->aa} {dp:J} {ns a b:List cl}
def Ext.refl(h:BC C G ns):Ext C G dp ns ns:=⟨⟨[],by simp,λn aH=>(by cases aH),trivial⟩,h,λ_ _ h=> .inl h⟩
def Ext.trans(h:Ext C G dp ns a)(k:Ext C G dp a b):Ext C G dp ns b:=by
 obtain⟨⟨s,rfl,ab,ad⟩,ao,aR⟩:=h;obtain⟨⟨t,rfl,au,bt⟩,bF,ck⟩:=k;refine⟨⟨s++t,by rw[nY],λn aH=> ?_,(afo s ns t).2 ⟨ad,bt⟩⟩,bF,λm d aE=> ?_⟩
 .rcases k5.1 aH with aH|aH
  .exact ab n aH
  .exact au n aH
 .rcases ck m d aE with bw|bw
  .rcases aR m d bw with eL|eL
   .exact .inl eL
   .exact .inr λr aC=>(eL r aC).mono
  .exact .inr bw
def Ext.q(h:Ext C G dp ns a)(ab:1<=dp)(az:FC ns dp):FC a dp:=by
 obtain⟨⟨s,rfl,ad,-⟩,-,-⟩:=h;intro x aj;by_cases aO:s=[]
 .subst aO;rw[hj]at aj;exact az x aj
 .have oT:x∈s:=by
   rw[ZU,List.getLast?_eq_some_getLast aO,Option.some_or]at aj;obtain rfl:=cJ aj;exact List.getLast_mem aO
  have:=ad x oT;exact⟨ab,by omega,.inl this⟩
def Ext.has(h:Ext C G dp ns a){m d:J}(aE:gf ns m d=true):gf a m d=true:=by
 obtain⟨⟨s,rfl,-,-⟩,-,-⟩:=h;exact Gg aE
def Ext.aiL(h:Ext C G dp ns a){m:J}{r:J×J}(aE:DQ C ns m r):DQ C a m r:=by
 obtain⟨⟨s,rfl,-,-⟩,-,-⟩:=h;exact aE.mono
def Ext.leaf(c6:BC C G ns)(az:FC ns dp)(n:cl)(ab:n.dp=dp)(ad:2<=n.k/\n.k<=5)(ao:0<=n.cQ)(aR: -1<=n.m)(bw:n.cf= -1)(eL:n.k=5->rn ns n.m n.cQ=some n.v):Ext C G dp ns (ns++[n]):=by
 have fK:∀m d,gf (ns++[n]) m d=true->gf ns m d=true:=λm d h=>by
  rw[Gf]at h⊢;obtain⟨x,aj,aQ,a_⟩:=h;rcases k5.1 aj with aj|aj
  .exact⟨x,aj,aQ,a_⟩
  .rw[kb]at aj;subst aj;omega
 refine⟨⟨[n],rfl,λx aj=>by rw[kb]at aj;rw[aj,ab];exact wI _,⟨⟨λx aj=> ?_,⟨by omega,by omega⟩,ao,aR,λh=>by omega,λ_=>bw,eL⟩,trivial⟩⟩,λx aj ai=> ?_,λm d h=> .inl (fK m d h)⟩
 .obtain⟨bd,a8,dI⟩:=az x aj;unfold IP;rw[gg,ab];exact⟨bd,a8,dI⟩
 .rcases k5.1 aj with aj|aj
  .exact c6 x aj ai
  .rw[kb]at aj;subst aj;omega
theorem VV{α:Type}{g:List cl->α->List cl}(ab:1<=dp):∀(l:List α)(P:α->List cl->Prop),(∀x∈l,∀ns,BC C G ns->FC ns dp->Ext C G dp ns (g ns x)/\P x (g ns x))->(∀x a b,Ext C G dp a b->P x a->P x b)->
  ∀ns,BC C G ns->FC ns dp->Ext C G dp ns (l.foldl g ns)/\∀x∈l,P x (l.foldl g ns)
 |[],_,_,_,ns,c6,_=>⟨Ext.refl c6,λx aj=>by cases aj⟩
 |y::l,P,al,hm,ns,c6,az=>by
  obtain⟨aQ,dM⟩:=al y (by simp) ns c6 az;obtain⟨a_,dQ⟩:=VV ab l P (λx aj=>al x (by simp[aj])) hm (g ns y) aQ.qd (aQ.q ab az);rw[x6];refine⟨aQ.trans a_,λx aj=> ?_⟩;rcases fM.1 aj with rfl|aj
  .exact hm _ _ _ a_ dM
  .exact dQ x aj
theorem Zj(aL:Good C G cS):∀(F:aa)(ns:List cl)(m d dp:J),cS m d<F->G m d->0<=dp->BC C G ns->FC ns dp->Ext C G dp ns (hJ C F ns m d dp)/\gf (hJ C F ns m d dp) m d=true
 |0,_,_,_,_,h,_,_,_,_=>by omega
 |F+1,ns,m,d,dp,hF,al,ar,c6,az=>by
  obtain⟨e9,eC,ia⟩:=aL.auG m d al;rw[hJ];by_cases aE:gf ns m d=true
  .rw[aP aE];exact⟨Ext.leaf c6 az _ rfl ⟨by simp,by simp⟩ e9 eC rfl (λ_=>aje c6 aE),Gg aE⟩
  .rw[aw aE];have WS:gf ns m d=false:=by simpa using aE
   have kE:BC C G (ns++[⟨1,dp,m,d,C.nS m d,C.val m d⟩]):=λx aj ai=>by
    rcases k5.1 aj with aj|aj
    .exact c6 x aj ai
    .rw[kb]at aj;subst aj;exact⟨rfl,rfl,al⟩
   have jn:FC (ns++[⟨1,dp,m,d,C.nS m d,C.val m d⟩]) (dp+1):=λx aj=>by
    rw[ZU,List.getLast?_singleton,Option.some_or]at aj;obtain rfl:=cJ aj;exact⟨by omega,by simp,.inr rfl⟩
   have yT:gf (ns++[⟨1,dp,m,d,C.nS m d,C.val m d⟩]) m d=true:=by
    rw[Gf];exact⟨⟨1,dp,m,d,C.nS m d,C.val m d⟩,by simp,rfl,rfl,rfl⟩
   obtain⟨aQ,a_⟩:=VV (C:=C) (G:=G) (dp:=dp+1) (g:=qz C (hJ C F) m (dp+1)) (by omega) (C.refs m d) (λr out=>DQ C out m r) (λr aC xL MA pr=>by
    obtain⟨hh,iC,kY,sr,EE⟩:=aL.ref m d al r aC;unfold qz;by_cases et:r.1=0
    .rw[aP et];exact⟨Ext.leaf MA pr _ rfl ⟨by simp,by simp⟩ hh eC rfl (λh=>by simp at h),λh=>by omega,λh=>by omega⟩
    rw[aw et];by_cases au:r.1=1
    .rw[aP au];obtain⟨g1,g2⟩:=sr au;obtain⟨bQ,cx⟩:=Zj aL F xL m r.2 (dp+1) (by omega) g1 (by omega) MA pr;exact⟨bQ,λ_=>cx,λh=>by omega⟩
    rw[aw au];by_cases bt:r.1=2
    .rw[aP bt];exact⟨Ext.leaf MA pr _ rfl ⟨by simp,by simp⟩ hh eC rfl (λh=>by simp at h),λh=>by omega,λh=>by omega⟩
    rw[aw bt];by_cases bF:r.1=3
    .rw[aP bF];exact⟨Ext.leaf MA pr _ rfl ⟨by simp,by simp⟩ hh eC rfl (λh=>by simp at h),λh=>by omega,λh=>by omega⟩
    rw[aw bF];have ck:r.1=4:=by omega
    obtain⟨bQ,cx⟩:=VV (C:=C) (G:=G) (dp:=dp+1) (g:=λns(j:aa)=>hJ C F ns (j:J) r.2 (dp+1)) (by omega) (List.range C.aM) (λj out=>gf out (j:J) r.2=true) (λj ay Sl hV2 iX=>by
     obtain⟨g1,g2⟩:=EE ck j (me.1 ay);exact Zj aL F Sl (j:J) r.2 (dp+1) (by omega) g1 (by omega) hV2 iX) (λj a b h ad=>h.has ad) xL MA pr
    exact⟨bQ,λh=>by omega,λ_ j ay=>cx j (me.2 ay)⟩) (λr a b h ad=>h.aiL ad) (ns++[⟨1,dp,m,d,C.nS m d,C.val m d⟩]) kE jn
   obtain⟨⟨vp,aO,s1,s2⟩,v1,aY⟩:=aQ;refine⟨⟨⟨⟨1,dp,m,d,C.nS m d,C.val m d⟩::vp,by rw[aO,nY,J_],λn aH=> ?_,⟨λx aj=> ?_,⟨by simp,by simp⟩,e9,eC,λ_=>⟨ia,ajc WS⟩,λh=>absurd rfl h,λh=>by simp at h⟩,s2⟩,v1,λjY fp h=> ?_⟩,by rw[aO];exact Gg yT⟩
   .rcases fM.1 aH with rfl|aH
    .exact wI _
    .have:=s1 n aH;omega
   .obtain⟨bd,a8,dI⟩:=az x aj;unfold IP;rw[gg];exact⟨bd,a8,dI⟩
   .rcases aY jY fp h with ab|ab
    .rw[Gf]at ab;obtain⟨x,aj,dr,eV,jP⟩:=ab;rcases k5.1 aj with aj|aj
     .exact .inl (Gf.2 ⟨x,aj,dr,eV,jP⟩)
     .rw[kb]at aj;subst aj;obtain rfl:=eV;obtain rfl:=jP;exact .inr a_
    .exact .inr ab
end
section
open Go.ChangeShapes Go.WideShapes Go.ChangeAt Go.RowKit Go.Joins Go.Deep
section
variable {H:Type} {enc:dC×ak->H} {w:ag}
def iV.tn{α:Type}{t e:dC}{k:aa}{v:ak}{P:ag->aa->aa->α->Prop}(cr:prog.underlying t=some (.slice e))(hC:prog.cellsOf e=k)(ai:0<k)(z:aa)(bP:prog.bytesOf e=z)(XW:16<=z)(hlen:∀cs,Reads enc w e cs->cs.length=k)(eJ:∀cs b o,cs.length=k->(∀j,j<k->aU w ⟨b,o+j,none⟩=cs[j]?)->iV enc w e cs->∃x,P w b o x)(h:iV enc w t [v]):∃xs,c0 k P w v xs:=by
 obtain⟨A,n,cap,rfl,aq,aH,aj⟩:=h.slice cr hC ai z bP XW hlen;rcases zB n with ar|hp
 .subst ar;exact⟨[],A,cap,rfl,by simp,by simp,λh=>absurd h (by simp)⟩
 obtain⟨b,off,a7,af,hR⟩:=aj hp;obtain⟨xs,av,oT⟩:=LL (p:=λi(x:α)=>P w b (off+i*k) x) n (λi aD=>by
  obtain⟨cs,gK,bd,a8⟩:=hR i aD;exact eJ cs b (off+i*k) gK bd a8)
 exact⟨xs,A,cap,by rw[av],by omega,by omega,λ_=>⟨b,off,a7,af,oT⟩⟩
def iV.CE{t:dC}{il:Array Field}{cs:dN}{b o:aa}{k:aa}(h:iV enc w t cs)(av:cs.length=k)(aq:∀j,j<k->aU w ⟨b,o+j,none⟩=cs[j]?)(cr:prog.underlying t=some (.struct il))(i q:aa)(f:Field)(bV:il[i]?=some f)(aA:f.offset=q)(bT:f.type=3)(az:q<k):∃n,n1 w b (o+q) n:=by
 obtain⟨u,g,r⟩:=h.xM cr i q 3 f bV aA bT (by kernel_rfl) (by omega);obtain⟨n,rfl,ab,ad⟩:=r.reads.int64;exact⟨n,(aq q az).trans g,ab,ad⟩
def iV.two{t T:dC}{il gs:Array Field}{cs:dN}{b o:aa}{k:aa}(h:iV enc w t cs)(av:cs.length=k)(aq:∀j,j<k->aU w ⟨b,o+j,none⟩=cs[j]?)(cr:prog.underlying t=some (.struct il))(i q:aa)(f:Field)(bV:il[i]?=some f)(aA:f.offset=q)(bT:f.type=T)(jm:prog.cellsOf T=2)(hu:prog.underlying T=some (.struct gs))(g0 g1:Field)(hD:gs[0]?=some g0)(aQ:gs[1]?=some g1)(a0:g0.offset=0)(eS:g1.offset=1)(kD:g0.type=3)(c9:g1.type=3)(az:q+1<k):(∃n,n1 w b (o+q) n)/\∃n,n1 w b (o+(q+1)) n:=by
 have ad:=h.sub cr i q 2 T f bV aA bT jm;have oq:((cs.drop q).take 2).length=2:=by rw[gT,OB];omega
 have jj:∀j,j<2->aU w ⟨b,o+q+j,none⟩=((cs.drop q).take 2)[j]?:=λj ay=>by
  rw[tv ay,Kb,<-aq (q+j) (by omega),Hl]
 have i0:=ad.CE oq jj hu 0 0 g0 hD a0 kD (by decide);have i1:=ad.CE oq jj hu 1 1 g1 aQ eS c9 (by decide);exact⟨i0,by rw[<-Hl];exact i1⟩
def iV.GJ{α:Type}{t T:dC}{R:ag->ak->α->Prop}{il:Array Field}{cs:dN}{b o:aa}{k:aa}(h:iV enc w t cs)(av:cs.length=k)(aq:∀j,j<k->aU w ⟨b,o+j,none⟩=cs[j]?)(cr:prog.underlying t=some (.struct il))(i q:aa)(f:Field)(bV:il[i]?=some f)(aA:f.offset=q)(bT:f.type=T)(ab:prog.cellsOf T=1)(az:q<k)(aJ:∀v,iV enc w T [v]->∃x,R w v x):∃x,tI R w b (o+q) x:=by
 obtain⟨u,g,r⟩:=h.xM cr i q T f bV aA bT ab (by omega);obtain⟨x,aj⟩:=aJ u r;exact⟨x,u,(aq q az).trans g,aj⟩
def iV.c'{t:dC}{il:Array Field}{cs:dN}{b o:aa}{k:aa}(h:iV enc w t cs)(av:cs.length=k)(aq:∀j,j<k->aU w ⟨b,o+j,none⟩=cs[j]?)(cr:prog.underlying t=some (.struct il))(i q:aa)(f:Field)(bV:il[i]?=some f)(aA:f.offset=q)(bT:f.type=9)(az:q<k):∃s,uv w b (o+q) s:=by
 obtain⟨u,g,r⟩:=h.xM cr i q 9 f bV aA bT (by kernel_rfl) (by omega);obtain⟨s,rfl,aO⟩:=r.SS;exact⟨s,(aq q az).trans g,aO⟩
def apk{cs:dN}(h:Reads enc w 9 cs):cs.length=1:=by
 obtain⟨n,m,h⟩:=h;obtain⟨s,aQ,_⟩:=DataW.trod_string underlying9 h;rw[aQ];rfl
def anm{v:ak}(h:iV enc w 90 [v]):∃xs,xe w v xs:=
 h.tn aqj ahG (by decide) 16 (by kernel_rfl) (by decide) (λ_ h=>apk h) λcs b o gK bd a8=>by
  match cs,gK with
  |[u],_=>
   obtain⟨s,rfl,aO⟩:=a8.SS;exact⟨s,bd 0 (by decide),aO⟩
def anj{v:ak}(h:iV enc w 95 [v]):∃xs,c0 5 oG w v xs:=
 h.tn aqg aa3 (by decide) 40 (by kernel_rfl) (by decide) (λ_ h=>GO underlying181 aa3 h) λcs b o gK bd a8=>by
  obtain⟨⟨bX,ar⟩,⟨bQ,ab⟩⟩:=a8.two gK bd underlying181 0 0 _ rfl rfl rfl (by kernel_rfl) underlying136 _ _ rfl rfl rfl rfl rfl rfl (by decide);obtain⟨cx,ad⟩:=a8.CE gK bd underlying181 1 2 _ rfl rfl rfl (by decide);obtain⟨hx,ao⟩:=a8.CE gK bd underlying181 2 3 _ rfl rfl rfl (by decide);obtain⟨hK,aR⟩:=a8.CE gK bd underlying181 3 4 _ rfl rfl rfl (by decide);exact⟨⟨bX,bQ,cx,hx,hK⟩,ar,ab,ad,ao,aR⟩
def adK{v:ak}(h:iV enc w 87 [v]):∃xs,c0 3 jt w v xs:=
 h.tn aqd aa1 (by decide) 32 (by kernel_rfl) (by decide) (λ_ h=>GO underlying113 aa1 h) λcs b o gK bd a8=>by
  obtain⟨bX,ar⟩:=a8.c' gK bd underlying113 0 0 _ rfl rfl rfl (by decide);obtain⟨⟨bQ,ab⟩,⟨cx,ad⟩⟩:=a8.two gK bd underlying113 1 1 _ rfl rfl rfl ZA underlying94 _ _ rfl rfl rfl rfl rfl rfl (by decide);exact⟨⟨bX,bQ,cx⟩,ar,ab,ad⟩
def ank{v:ak}(h:iV enc w 85 [v]):∃xs,c0 9 lz w v xs:=
 h.tn aqh aa4 (by decide) 120 (by kernel_rfl) (by decide) (λ_ h=>GO underlying138 aa4 h) λcs b o gK bd a8=>by
  obtain⟨bX,ar⟩:=a8.c' gK bd underlying138 0 0 _ rfl rfl rfl (by decide);obtain⟨bQ,ab⟩:=a8.CE gK bd underlying138 1 1 _ rfl rfl rfl (by decide);obtain⟨cx,ad⟩:=a8.CE gK bd underlying138 2 2 _ rfl rfl rfl (by decide);obtain⟨hx,ao⟩:=a8.CE gK bd underlying138 3 3 _ rfl rfl rfl (by decide);obtain⟨⟨hK,aR⟩,⟨pE,bw⟩⟩:=a8.two gK bd underlying138 4 4 _ rfl rfl rfl (by kernel_rfl) underlying136 _ _ rfl rfl rfl rfl rfl rfl (by decide);obtain⟨xZ,eL⟩:=a8.GJ (R:=iU) gK bd underlying138 5 6 _ rfl rfl rfl (by kernel_rfl) (by decide) (λv h=>adL h);obtain⟨EX,hX⟩:=a8.GJ (R:=iU) gK bd underlying138 6 7 _ rfl rfl rfl (by kernel_rfl) (by decide) (λv h=>adL h);obtain⟨C_,eI⟩:=a8.c' gK bd underlying138 7 8 _ rfl rfl rfl (by decide);exact⟨⟨bX,bQ,cx,hx,hK,pE,xZ,EX,C_⟩,ar,ab,ad,ao,aR,bw,eL,hX,eI⟩
def ann{v:ak}(h:iV enc w 23 [v]):∃xs,c0 6 ld w v xs:=
 h.tn aqk aa6 (by decide) 72 (by kernel_rfl) (by decide) (λ_ h=>GO underlying97 aa6 h) λcs b o gK bd a8=>by
  obtain⟨bX,ar⟩:=a8.c' gK bd underlying97 0 0 _ rfl rfl rfl (by decide);obtain⟨⟨bQ,ab⟩,⟨cx,ad⟩⟩:=a8.two gK bd underlying97 1 1 _ rfl rfl rfl ZA underlying94 _ _ rfl rfl rfl rfl rfl rfl (by decide);obtain⟨⟨hx,ao⟩,⟨hK,aR⟩⟩:=a8.two gK bd underlying97 2 3 _ rfl rfl rfl ZA underlying94 _ _ rfl rfl rfl rfl rfl rfl (by decide);obtain⟨pE,bw⟩:=a8.GJ (R:=c0 5 oG) gK bd underlying97 3 5 _ rfl rfl rfl (by kernel_rfl) (by decide) (λv h=>anj h);exact⟨⟨bX,bQ,cx,hx,hK,pE⟩,ar,ab,ad,ao,aR,bw⟩
def ang{v:ak}(h:iV enc w 22 [v]):∃xs,c0 2 n2 w v xs:=
 h.tn aqb aa0 (by decide) 40 (by kernel_rfl) (by decide) (λ_ h=>GO underlying92 aa0 h) λcs b o gK bd a8=>by
  obtain⟨bX,ar⟩:=a8.c' gK bd underlying92 0 0 _ rfl rfl rfl (by decide);obtain⟨bQ,ab⟩:=a8.GJ (R:=xe) gK bd underlying92 1 1 _ rfl rfl rfl (by kernel_rfl) (by decide) (λv h=>anm h);exact⟨⟨bX,bQ⟩,ar,ab⟩
def anl{v:ak}(h:iV enc w 24 [v]):∃xs,c0 5 yy w v xs:=
 h.tn aqi aa5 (by decide) 96 (by kernel_rfl) (by decide) (λ_ h=>GO underlying89 aa5 h) λcs b o gK bd a8=>by
  obtain⟨bX,ar⟩:=a8.c' gK bd underlying89 0 0 _ rfl rfl rfl (by decide);obtain⟨bQ,ab⟩:=a8.CE gK bd underlying89 1 1 _ rfl rfl rfl (by decide);obtain⟨cx,ad⟩:=a8.GJ (R:=c0 3 jt) gK bd underlying89 2 2 _ rfl rfl rfl (by kernel_rfl) (by decide) (λv h=>adK h);obtain⟨hx,ao⟩:=a8.GJ (R:=c0 3 jt) gK bd underlying89 3 3 _ rfl rfl rfl (by kernel_rfl) (by decide) (λv h=>adK h);obtain⟨hK,aR⟩:=a8.GJ (R:=c0 9 lz) gK bd underlying89 4 4 _ rfl rfl rfl (by kernel_rfl) (by decide) (λv h=>ank h);exact⟨⟨bX,bQ,cx,hx,hK⟩,ar,ab,ad,ao,aR⟩
def anh{base:aa}{v:ak}{d:DataW H}{p:List MemPlace}(aK:Value.okWide prog w .any base 26 v)(h:DataW.Trod enc prog w 0 (λ_=>true) true 26 v d p)(hw:Lp 26 d):∃l,h1 w v l:=by
 obtain⟨⟨cs⟩,rfl,nN⟩:=okWide_struct underlying26 aK;rw[show prog.cellsOf 26=3 by kernel_rfl]at nN;have aC:iV enc w 26 cs:=by
  obtain⟨fuel,bV⟩:=h;exact⟨fuel,_,bV,hw⟩
 have nM:cs.length=3:=nN;obtain⟨u0,g0,oy⟩:=aC.xM underlying26 0 0 22 _ rfl rfl rfl (by kernel_rfl) (show 0<cs.length by omega);obtain⟨u1,g1,hh⟩:=aC.xM underlying26 1 1 23 _ rfl rfl rfl (by kernel_rfl) (show 1<cs.length by omega);obtain⟨u2,g2,iC⟩:=aC.xM underlying26 2 2 24 _ rfl rfl rfl (by kernel_rfl) (show 2<cs.length by omega);match cs,nM with
 |[cK,aY,a'],_=>
  simp at g0 g1 g2;subst g0 g1 g2;obtain⟨bs,ar⟩:=ang oy;obtain⟨tb,ab⟩:=ann hh;obtain⟨sc,ad⟩:=anl iC;exact⟨⟨bs,tb,sc⟩,_,_,_,rfl,ar,ab,ad⟩
end
end
end Go.Proofs.YtilhklpfkgbikaaGreatDoor
