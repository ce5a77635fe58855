import Derived.Test.YtilhklpfkgbikaaGreatDoorAA
import Derived.Test.YtilhklpfkgbikaaGreatDoorAB
import Derived.Test.YtilhklpfkgbikaaGreatDoorAC
set_option linter.all false
namespace Go.Proofs.YtilhklpfkgbikaaGreatDoor
open Go.RowKit Go.Proofs.Tryz
set_option maxRecDepth 100000
set_option maxHeartbeats 16000000
def afc{s:kj}{e:List cw}{t:dh}(h:nT s e=(t,0)):e.length<=48:=by
 unfold nT at h;split at h
 .rename_i ab;exact absurd (congrArg Prod.snd h) ab
 .rename_i ab;exact (aeU (by simpa using ab)).2.1
def aml(p:br->Bool)(l:List br):l.length=(l.filter p).length+(l.filter λr=> ! p r).length:=by
 induction l with
 |nil=>rfl
 |cons r l bO=>cases h:p r<;>simp[h]<;>omega
def aiw{k:aa}:∀(n:aa)(l:List br),(∀r∈l,0<=r.bx/\r.bx<(n:J))->(∀d:J,nk d l<=k)->l.length<=k*n:=by
 intro n;induction n with
 |zero=>
  intro l aC _
  cases l with
  |nil=>simp
  |cons r l=>have:=aC r (by simp);omega
 |succ n bO=>
  intro l aC aq;rw[aml (λr=>decide (r.bx=(n:J)))];have ab:(l.filter λr=>decide (r.bx=(n:J))).length<=k:=aq n;have ad:(l.filter λr=> ! decide (r.bx=(n:J))).length<=k*n:=bO _ (λr hm=>by
   rw[uq]at hm;have:=aC r hm.1;have ao:r.bx≠(n:J):=by simpa using hm.2
   omega) (λd=>fN (by
    unfold nk;exact (List.filter_sublist.filter _).length_le) (aq d))
  rw[Nat.mul_succ];omega
def aiv{iD:kj}{s:cq}(h:∀i r,s.rs[i]?=some r->xd iD s i r)(d:J):∀i,nk d (s.rs.take i)<=8:=by
 intro i;induction i with
 |zero=>simp[nk]
 |succ i bO=>
  by_cases aD:i<s.rs.length
  .have al:s.rs[i]?=some s.rs[i]:=bn aD;rw[Qe al];have aC:=(h i _ al).fS;split
   .rename_i e;rw[e]at aC;omega
   .omega
  .rw[mH (by omega)]at bO⊢;exact bO
def aer{iD:kj}{s:cq}(h:∀i r,s.rs[i]?=some r->xd iD s i r)(aE:s.ds.length<=12):qw s.rs:=by
 have dK:∀r∈s.rs,∃i,xd iD s i r:=λr hm=>by
  obtain⟨i,aD⟩:=mc hm;exact⟨i,h i r aD⟩
 refine⟨?_,λr hm=> ?_⟩
 .have ab:=aiw (k:=8) s.ds s.rs (λr hm=>by obtain⟨i,aC⟩:=dK r hm;exact aC.bx) (λd=>by
   have:=aiv h d s.rs;rwa [x3]at this)
  omega
 .obtain⟨i,aC⟩:=dK r hm;refine⟨?_,?_⟩
  .by_cases al:0<r.g.length
   .exact afc (aC.DU al)
   .omega
  .have Gk:=aC.bx;have aN:r.bx.toNat<s.ds.length:=by omega
   exact afc (aC.hv _ (bn aN))
structure lA(l:cO)(i:aa)(s:cq):Prop where
 ne:fV s.aM (l.bs.map (·.aM))=false
 jZ:fV s.aM (l.tb.map (·.aM))=false
 zn:fV s.aM ((l.sc.take i).map (·.aM))=false
 id:nP (L s.aM)=true
 ms:s.ms= -1\/(0<=s.ms/\s.ms<i/\∀t,l.sc[s.ms.toNat]?=some t->t.ms= -1)
 i12:s.ins.length<=12
 d12:s.ds.length<=12
 ins:∀j f,s.ins[j]?=some f->q3 l.ms f (s.ins.take j) []
 ds:∀j f,s.ds[j]?=some f->q3 l.ms f s.ins (s.ds.take j)
 rs:∀j r,s.rs[j]?=some r->xd (qa l s) s j r
 ac:∀d:aa,d<s.ds.length->(ma s.ds s.rs d).contains (d:J)=false
structure w8(w wr:ag)(P S js D fs B:aa)(dt:J)(b7 c1 cM bv:ak)(sc:ho)(wF:ak)(o:aW)(dz:aa)(ds:List bC)(eZ:aW):Prop where
 two:Two w wr none P
 j1:aB wr P 67 #[dt,b7,ae (some (D,0)) dz dz,c1,cM,bv]
 kL:aB wr S 89 sc
 ik:aB wr js 37 #[(),(),(),()]
 vX:aB wr D 34 (vv ds)
 ej:aB wr fs 3 (va eZ)
 pz:dj wr B wF o
 dl:ds.length=dz
 JT:eZ.length=dz
 eJ:P<w.heap.size
 bH:w.heap.size<=S
 a1:w.heap.size<=js
 cY:w.heap.size<=D
 aJ:w.heap.size<=fs
 BV:D≠fs
 JY:S≠D
 xR:S≠fs
 xm:js≠D
 r_:js≠fs
 PV:D<B
 BI:fs<B
def aqA{ds:List bC}{d:aa}(h:d<ds.length)(x:bC):(((vv ds).setIfInBounds (d*3) x.k).setIfInBounds (d*3+1) x.e).setIfInBounds (d*3+2) x.n=vv (ds.set d x):=by
 have ab:ds=ds.take d++ds[d]::ds.drop (d+1):=by rw[<-jA h,Th]
 have ad:(ds.take d).length=d:=by rw[gT];omega
 have ao:=afm (ds.take d) (ds.drop (d+1)) ds[d] x;rw[<-ab,ad]at ao;rw[ao];congr 1;rw[List.set_eq_take_append_cons_drop,aP h]
section
variable {w wr xY:ag} {P S js D fs B:aa} {dt:J} {b7 c1 cM bv:ak} {sc:ho} {wF:ak} {o:aW} {dz:aa} {ds:List bC} {eZ:aW}
def w8.keep(h:w8 w wr P S js D fs B dt b7 c1 cM bv sc wF o dz ds eZ)(ai:Kept wr xY):w8 w xY P S js D fs B dt b7 c1 cM bv sc wF o dz ds eZ:=
 ⟨h.two.trans (Two.ky ai) (.inl rfl),h.j1.kept ai,h.kL.kept ai,h.ik.kept ai,h.vX.kept ai,h.ej.kept ai,h.pz.vd ai,h.dl,h.JT,h.eJ,h.bH,h.a1,h.cY,h.aJ,h.BV,h.JY,h.xR,h.xm,h.r_,h.PV,h.BI⟩
def Two.oA{w w':ag}{a:Option aa}{r b:aa}(h:Two w w' a r)(af:w<=b)(i:aa)(u:ak):Two w (w'.setCell (b,i) u) a r:=
 ⟨h.os,h.tape,h.output,by simp;exact h.size,λk ai aC bU=>(jQ w' ⟨b,i,none⟩ u k (by simp only;omega)).trans (h.block k ai aC bU)⟩
def w8.aoO(h:w8 w wr P S js D fs B dt b7 c1 cM bv sc wF o dz ds eZ){d:aa}(aE:d<dz)(x:bC):
  w8 w (((wr.setCell (D,d*3) x.k).setCell (D,d*3+1) x.e).setCell (D,d*3+2) x.n) P S js D fs B dt b7 c1 cM bv sc wF o dz (ds.set d x) eZ:=by
 have Ca:P≠D:=by have:=h.eJ;have:=h.cY;omega
 have aA:wF.ownBlock≠some D:=λe=>by have:=zp h.pz e;have:=h.PV;omega
 refine⟨((h.two.oA h.cY _ _).oA h.cY _ _).oA h.cY _ _,?_,?_,?_,?_,?_,?_,by rw[gJ];exact h.dl,h.JT,h.eJ,h.bH,h.a1,h.cY,h.aJ,h.BV,h.JY,h.xR,h.xm,h.r_,h.PV,h.BI⟩
 .exact ((h.j1.far (p:=⟨D,_,none⟩) Ca _).far (p:=⟨D,_,none⟩) Ca _).far (p:=⟨D,_,none⟩) Ca _
 .exact ((h.kL.far (p:=⟨D,_,none⟩) h.JY _).far (p:=⟨D,_,none⟩) h.JY _).far (p:=⟨D,_,none⟩) h.JY _
 .exact ((h.ik.far (p:=⟨D,_,none⟩) h.xm _).far (p:=⟨D,_,none⟩) h.xm _).far (p:=⟨D,_,none⟩) h.xm _
 .have:=((h.vX.ba (d*3) x.k).ba (d*3+1) x.e).ba (d*3+2) x.n;rwa [aqA (by rw[h.dl];exact aE)]at this
 .exact ((h.ej.far (p:=⟨D,_,none⟩) h.BV.symm _).far (p:=⟨D,_,none⟩) h.BV.symm _).far (p:=⟨D,_,none⟩) h.BV.symm _
 .exact ((h.pz.CX (p:=⟨D,_,none⟩) aA _).CX (p:=⟨D,_,none⟩) aA _).CX (p:=⟨D,_,none⟩) aA _
def w8.mD(h:w8 w wr P S js D fs B dt b7 c1 cM bv sc wF o dz ds eZ)(d:aa)(x:J):w8 w (wr.setCell (fs,d) x) P S js D fs B dt b7 c1 cM bv sc wF o dz ds (eZ.set d x):=by
 have Ca:P≠fs:=by have:=h.eJ;have:=h.aJ;omega
 have aA:wF.ownBlock≠some fs:=λe=>by have:=zp h.pz e;have:=h.BI;omega
 refine⟨h.two.oA h.aJ _ _,h.j1.far (p:=⟨fs,d,none⟩) Ca _,h.kL.far (p:=⟨fs,d,none⟩) h.xR _,h.ik.far (p:=⟨fs,d,none⟩) h.r_ _,h.vX.far (p:=⟨fs,d,none⟩) h.BV _,?_,h.pz.CX (p:=⟨fs,d,none⟩) aA _,h.dl,by rw[gJ];exact h.JT,h.eJ,h.bH,h.a1,h.cY,h.aJ,h.BV,h.JY,h.xR,h.xm,h.r_,h.PV,h.BI⟩;have:=h.ej.ba d x;rwa [Jt]at this
end
def StP(w:ag)(P:aa)(F:ag->Prop):Prop:=∀w',Two w w' none P->F w'
def L4(P:aa)(dt:J)(b7 c1 cM bv:ak)(cn:J)(R:BD)(dz:aa)(w:ag)(e:Ending)(w':ag):Prop:=
 ∃(u:ak)(a b c:J),e=bL (bj #[u,aF #[R.c,a,ah b,c]])/\lV R.c cn R.d R.r a b c/\Two w w' none P/\
  (R.c=0->∃dy,aB w' P 67 #[dt,b7,dy,c1,cM,bv]/\ft w' dy R.bY/\gw w' u R.us/\R.us.length=dz/\(∀b,dy.ownBlock=some b->w.heap.size<=b/\b<w'.heap.size)/\∀b,u.ownBlock=some b->w.heap.size<=b)
def ao7{Lf:gD}{E:dT}{rs:List br}{d:J}(h:(e0 Lf E rs d).2.1≠0):(fW Lf E rs d).2.2=(e0 Lf E rs d).2:=by unfold fW;rw[aP h]
def ao5{Lf:gD}{E:dT}{rs:List br}{d:J}(h:(e0 Lf E rs d).2.1=0)(ab:(e0 Lf E rs d).1= -1):(fW Lf E rs d).2.2=(10,-1):=by unfold fW;rw[aw (by omega),aP ab]
def ao8{Lf:gD}{E:dT}{rs:List br}{d:J}(h:(e0 Lf E rs d).2.1=0)(ab:(e0 Lf E rs d).1= -2):(fW Lf E rs d).2.2=(11,-1):=by unfold fW;rw[aw (by omega),aw (by omega),aP ab]
def ao9{Lf:gD}{E:dT}{rs:List br}{d:J}{k:aa}{r:br}(h:(e0 Lf E rs d).2.1=0)(ab:(e0 Lf E rs d).1=k)(aC:rs[k]?=some r):((hW Lf E r.v).2≠0->(fW Lf E rs d).2.2=((hW Lf E r.v).2,(k:J)))/\((hW Lf E r.v).2=0->fW Lf E rs d=((hW Lf E r.v).1,(k:J),0,0)):=by
 unfold fW;rw[aw (by omega),aw (by omega),aw (by omega),ab,c7,aC,b9];by_cases e:(hW Lf E r.v).2≠0
 .rw[aP e];exact⟨λ_=>rfl,λh=>absurd h e⟩
 .rw[aw e];exact⟨λh=>absurd h e,λ_=>rfl⟩
def oH(w w':ag)(ok:aa->Prop):Prop:=∀b,b<w.heap.size->ok b->w'.heap[b]?=w.heap[b]?
def oH.lt{w w':ag}{ok:aa->Prop}(h:oH w w' ok){b:aa}(af:b<w)(aA:ok b):b<w':=by
 have:=h b af aA;rw[J9 af]at this;exact (nW.1 this).1
def hP.stays{α:Type}{f:α->List ak}{k:aa}{w w':ag}{v:ak}{xs:List α}{ok:aa->Prop}(h:hP w f k v xs)(aO:oH w w' ok)(aA:∀b,v.ownBlock=some b->ok b):hP w' f k v xs:=by
 obtain⟨A,cap,rfl,aj⟩:=h;refine⟨A,cap,rfl,λhp=> ?_⟩;obtain⟨b,off,rfl,af,aq⟩:=aj hp;refine⟨b,off,rfl,aO.lt af (aA b rfl),λj x ay i u hu=> ?_⟩;have:=aq j x ay i u hu;unfold World.cell? at this⊢;simp only at this⊢;rw[aO b af (aA b rfl)];exact this
def rJ{w w':ag}{B:aa}{e:dC}{k n:aa}{v:ak}{xs:dN}{ok:aa->Prop}(h:w.ownsRow B e k v n xs)(aO:oH w w' ok)(aA:∀b,v.ownBlock=some b->ok b):w'.ownsRow B e k v n xs:=by
 refine⟨h.1,?_⟩;rcases h.2 with ad|⟨g,cap,cur,rfl,af,al,ao⟩
 .exact .inl ad
 .exact .inr ⟨g,cap,cur,rfl,af,(aO g (nW.1 al).1 (aA g rfl)).trans al,ao⟩
def BJ{w w':ag}{g:aa}{t:dC}{cs:ho}{ok:aa->Prop}(h:aB w g t cs)(aO:oH w w' ok)(aA:ok g):aB w' g t cs:=(aO g h.lt aA).trans h
def EV(u:ak):dN:=[u]
def aqc(u:ak):(EV u).length=1:=rfl
def z7(B:aa)(v cD:ak)(acc:List (List bC))(w:ag):Prop:=
 ∃us:dN,us.length=acc.length/\cb w B 27 EV 1 v us/\∀(i:aa)u x,us[i]?=some u->acc[i]?=some x->ft w u x/\x.length<=1000/\∀b,u.ownBlock=some b->B<=b/\b<w.heap.size/\v.ownBlock≠some b/\cD.ownBlock≠some b
def z7.stays{B:aa}{v cD:ak}{acc:List (List bC)}{w w':ag}{ok:aa->Prop}(h:z7 B v cD acc w)(aO:oH w w' ok)(aA:∀b,B<=b->ok b):z7 B v cD acc w':=by
 obtain⟨us,ab,ad,ao⟩:=h;refine⟨us,ab,rJ ad aO (λb af=>aA b (iF ad b af).1),λi u x hu aj=> ?_⟩;obtain⟨g1,g2,g3⟩:=ao i u x hu aj;exact⟨g1.stays aO (λb af=>aA b (g3 b af).1),g2,λb af=>⟨(g3 b af).1,aO.lt (g3 b af).2.1 (aA b (g3 b af).1),(g3 b af).2.2⟩⟩
def z7.amJ{B:aa}{v cD:ak}{acc:List (List bC)}{w:ag}(h:z7 B v cD acc w):kh w v acc:=by
 obtain⟨us,ab,ad,ao⟩:=h;obtain⟨A,cap,rfl,aj⟩:=cb.jx aqc ad;rw[ab]at aj⊢;by_cases av:acc.length<=9223372036854775807
 .refine⟨A,cap,rfl,av,λhp=> ?_⟩;obtain⟨b,off,rfl,af,aq⟩:=aj hp;refine⟨b,off,rfl,af,λj l ay=> ?_⟩;have hju:j<us.length:=by rw[ab];exact (b2 ay).1
  obtain⟨g1,g2,-⟩:=ao j _ l (bn hju) ay;have:=aq j _ (bn hju) 0 _ rfl;rw[jD,lT]at this;exact⟨by omega,_,this,g1⟩
 .exfalso;rcases ad.2 with⟨-,aH⟩|⟨g,IE,cur,aK,-,-,g1,g2,-⟩
  .omega
  .unfold maxLen at g2;omega
def amP(B:aa)(w:ag):z7 B bf bf [] w:=⟨[],rfl,cb.nil _ _ _,λi u x h=>by cases h⟩
structure w9(W:ag)(E R B:aa)(dt:J)(b7 cM bv c1 cD:ak)(acc:List (List bC))(wr:ag):Prop where
 two:Two W wr (some R) E
 ik:aB wr E 67 #[dt,b7,bf,c1,cM,bv]
 ej:aB wr R 64 #[bf,bf,cD]
 xI:z7 B c1 cD acc wr
 ro:∃xs,wr.ownsRow B 118 2 cD acc xs
 ap:∀g,c1.ownBlock=some g->cD.ownBlock≠some g
 a1:E<B
 aJ:R<B
 r_:E≠R
def R3{w w':ag}(h:Kept w w')(ok:aa->Prop):oH w w' ok:=λb af _=>h.block b af
def Two.alR{W wr w':ag}{R E:aa}(h:Two W wr (some R) E)(ai:Kept wr w'):Two W w' (some R) E:=
 ⟨ai.os.trans h.os,ai.tape.trans h.tape,ai.output.trans h.output,fN h.size ai.size,λk ab ad ao=>(ai.block k (bG ab h.size)).trans (h.block k ab ad ao)⟩
section
variable {W:ag} {E R B:aa} {dt:J} {b7 cM bv c1 cD:ak} {acc:List (List bC)} {wr w':ag}
def w9.keep(h:w9 W E R B dt b7 cM bv c1 cD acc wr)(ai:Kept wr w'):w9 W E R B dt b7 cM bv c1 cD acc w':=by
 obtain⟨xs,aj⟩:=h.ro;exact⟨h.two.alR ai,h.ik.kept ai,h.ej.kept ai,h.xI.stays (R3 ai λ_=>True) (λ_ _=>trivial),⟨xs,rJ aj (R3 ai λ_=>True) (λ_ _=>trivial)⟩,h.ap,h.a1,h.aJ,h.r_⟩
structure La(W:ag)(E R B:aa)(dt:J)(b7 cM bv c1 cD:ak)(acc:List (List bC))(n:aa)(wr:ag):Prop where
 two:Two W wr (some R) E
 ik:aB wr E 67 #[dt,b7,bf,c1,cM,bv]
 ej:aB wr R 64 #[bf,bf,cD]
 xI:z7 B c1 cD acc wr
 ro:∃xs,wr.ownsRow B 118 2 cD n xs
 ap:∀g,c1.ownBlock=some g->cD.ownBlock≠some g
 a1:E<B
 aJ:R<B
 r_:E≠R
def w9.U6(h:w9 W E R B dt b7 cM bv c1 cD acc wr)(bc:W.heap.size<=B){u:ak}{x:List bC}(hu:ft wr u x)(av:x.length<=1000)(bV:∀b,u.ownBlock=some b->B<=b/\b<wr.heap.size/\c1.ownBlock≠some b/\cD.ownBlock≠some b){us:dN}(Eg:us.length=acc.length)(s9:∀(i:aa)u x,us[i]?=some u->acc[i]?=some x->ft wr u x/\x.length<=1000/\∀b,u.ownBlock=some b->B<=b/\b<wr.heap.size/\c1.ownBlock≠some b/\cD.ownBlock≠some b){o:Obj}{v':ak}(ab:w'.ownsRow B 27 1 v' (us.length+1) (us.flatMap EV++EV u))(ad:(wr.alloc o).grownBy w' c1.ownBlock)(ao:v'.ownBlock=c1.ownBlock\/v'.ownBlock=some (wr.alloc o).heap.size):
  La W E R B dt b7 cM bv v' cD (acc++[x]) acc (w'.setCell (E,3) v'):=by
 have Xc:∀g,c1.ownBlock=some g->B<=g:=λg al=>by
  obtain⟨S4,_,D_,-⟩:=h.xI;exact (iF D_ g al).1
 have dH:oH wr w' (λb=>c1.ownBlock≠some b):=λb af aA=>(ad.block b (by simp;omega) (λe=>aA e.symm)).trans (wL wr o b af);have xC:oH wr (w'.setCell ⟨E,3,none⟩ v') (λb=>c1.ownBlock≠some b/\b≠E):=λb af aA=>(jQ w' ⟨E,3,none⟩ v' b aA.2).trans (dH b af aA.1);have aK:∀b,b<wr.heap.size->c1.ownBlock≠some b->v'.ownBlock≠some b:=λb af aA e=>by
  rcases ao with ao|ao
  .exact aA (ao▸e)
  .rw[ao]at e;have:=cJ e;simp at this;omega
 obtain⟨xs,aj⟩:=h.ro;have hEB:=h.a1;have hRB:=h.aJ;have Rp:c1.ownBlock≠some E:=λe=>by have:=Xc _ e;omega
 have Xd:c1.ownBlock≠some R:=λe=>by have:=Xc _ e;omega
 have hgR:oH w' (w'.setCell ⟨E,3,none⟩ v') (λb=>b≠E):=λb _ aA=>jQ w' ⟨E,3,none⟩ v' b aA;refine⟨⟨ad.os.trans h.two.os,ad.tape.trans h.two.tape,ad.output.trans h.two.output,?_,λk ai a1 aJ=> ?_⟩,?_,BJ h.ej xC ⟨Xd,h.r_.symm⟩,⟨us++[u],by simp[Eg],?_,λi a b bD af=> ?_⟩,⟨xs,rJ aj xC (λb af=>⟨λe=>h.ap b e af,λe=>by have:=(iF aj b af).1;omega⟩)⟩,λg al e=> ?_,h.a1,h.aJ,h.r_⟩
 .have:=ad.size;have:=h.two.size;simp at*;omega
 .have qM:=h.two.size;exact (xC k (by omega) ⟨λe=>by have:=Xc _ e;omega,a1⟩).trans (h.two.block k ai a1 aJ)
 .have:=(BJ h.ik dH Rp).ba 3 v';simpa using this
 .have Me:cb w' B 27 EV 1 v' (us++[u]):=cb.snoc ab;exact rJ Me hgR (λb af=>by have:=(iF Me b af).1;omega)
 .have key:∀c d,(ft wr c d/\d.length<=1000/\∀b,c.ownBlock=some b->B<=b/\b<wr.heap.size/\c1.ownBlock≠some b/\cD.ownBlock≠some b)->ft (w'.setCell ⟨E,3,none⟩ v') c d/\d.length<=1000/\∀b,c.ownBlock=some b->B<=b/\b<(w'.setCell ⟨E,3,none⟩ v').heap.size/\v'.ownBlock≠some b/\cD.ownBlock≠some b:=by
   rintro c d⟨eS,a2,a3⟩;exact⟨eS.stays xC (λb af=>⟨(a3 b af).2.2.1,by have:=(a3 b af).1;omega⟩),a2,λb af=>⟨(a3 b af).1,xC.lt (a3 b af).2.1 ⟨(a3 b af).2.2.1,by have:=(a3 b af).1;omega⟩,aK b (a3 b af).2.1 (a3 b af).2.2.1,(a3 b af).2.2.2⟩⟩
  by_cases aD:i<us.length
  .rw[lQ aD]at bD;rw[lQ (by omega)]at af;exact key _ _ (s9 i a b bD af)
  .rw[k4 (by omega)]at bD;rw[k4 (by omega),<-Eg]at af;have Rj:i-us.length=0:=by have:=(b2 bD).1;simp at this;omega
   rw[Rj]at bD af
   cases bD
   cases af;exact key _ _ ⟨hu,av,bV⟩
 .rcases ao with ao|ao
  .exact h.ap g (ao▸al) e
  .rw[ao]at al;have aR:=cJ al;have:=(iF aj g e).2;simp at aR;omega
def La.U7{n:aa}(h:La W E R B dt b7 cM bv c1 cD acc n wr)(aH:acc.length=n+1){xs cA:dN}{o:Obj}{v':ak}(aj:wr.ownsRow B 118 2 cD n xs)(ab:w'.ownsRow B 118 2 v' (n+1) cA)(ad:(wr.alloc o).grownBy w' cD.ownBlock)(ao:v'.ownBlock=cD.ownBlock\/v'.ownBlock=some (wr.alloc o).heap.size)(bc:W.heap.size<=B):
  w9 W E R B dt b7 cM bv c1 v' acc (w'.setCell (R,2) v'):=by
 have Xx:∀g,cD.ownBlock=some g->B<=g:=λg al=>(iF aj g al).1;have dH:oH wr w' (λb=>cD.ownBlock≠some b):=λb af aA=>(ad.block b (by simp;omega) (λe=>aA e.symm)).trans (wL wr o b af);have xC:oH wr (w'.setCell ⟨R,2,none⟩ v') (λb=>cD.ownBlock≠some b/\b≠R):=λb af aA=>(jQ w' ⟨R,2,none⟩ v' b aA.2).trans (dH b af aA.1);have hEB:=h.a1;have hRB:=h.aJ;have Rp:cD.ownBlock≠some E:=λe=>by have:=Xx _ e;omega
 have Xd:cD.ownBlock≠some R:=λe=>by have:=Xx _ e;omega
 obtain⟨us,g1,g2,g3⟩:=h.xI;have aK:∀b,b<wr.heap.size->cD.ownBlock≠some b->v'.ownBlock≠some b:=λb af aA e=>by
  rcases ao with ao|ao
  .exact aA (ao▸e)
  .rw[ao]at e;have:=cJ e;simp at this;omega
 refine⟨⟨ad.os.trans h.two.os,ad.tape.trans h.two.tape,ad.output.trans h.two.output,?_,λk ai a1 aJ=> ?_⟩,BJ h.ik xC ⟨Rp,h.r_⟩,?_,⟨us,g1,?_,λi a b bD af=> ?_⟩,⟨cA,?_⟩,λg al e=> ?_,h.a1,h.aJ,h.r_⟩
 .have:=ad.size;have:=h.two.size;simp at*;omega
 .have qM:=h.two.size;exact (xC k (by omega) ⟨λe=>by have:=Xx _ e;omega,λe=>aJ (by rw[e])⟩).trans (h.two.block k ai a1 aJ)
 .have:=(BJ h.ej dH Xd).ba 2 v';simpa using this
 .exact rJ g2 xC (λb af=>⟨λe=>h.ap b af e,by have:=(iF g2 b af).1;omega⟩)
 .obtain⟨eS,a2,a3⟩:=g3 i a b bD af;have ok:∀c,a.ownBlock=some c->cD.ownBlock≠some c/\c≠R:=λc aq=>⟨(a3 c aq).2.2.2,by have:=(a3 c aq).1;omega⟩;exact⟨eS.stays xC ok,a2,λc aq=>⟨(a3 c aq).1,xC.lt (a3 c aq).2.1 (ok c aq),(a3 c aq).2.2.1,aK c (a3 c aq).2.1 (a3 c aq).2.2.2⟩⟩
 .rw[aH];exact rJ ab (w':=w'.setCell ⟨R,2,none⟩ v') (ok:=λb=>b≠R) (λb _ aA=>jQ w' ⟨R,2,none⟩ v' b aA) (λb af=>by have:=(iF ab b af).1;omega)
 .exact aK g (iF g2 g al).2 (h.ap g al) e
end
def H6(P D M:aa)(gn:gu)(b7 dy cD kx km jN:ak)(s m:cq)(nb cn:List Bool)(wr:ag):Prop:=
 aB wr P 110 #[s.aM,s.ms,b7,dy,cD,m.aM,m.ms,kx,km,jN,ae (some (D,0)) nb nb,ae gn cn cn]/\
 aB wr D 4 (iJ nb)/\(0<cn.length->gn=some ⟨M,0,none⟩/\aB wr M 4 (iJ cn))
structure Pv(w:ag)(P D M:aa)(b7 dy cD kx km jN:ak)(s m:cq):Prop where
 s:nF w (aF #[s.aM,s.ms,b7,dy,cD]) s
 m:nF w (aF #[m.aM,m.ms,kx,km,jN]) m
 NZ:P≠D
 pm:P≠M
 auq:D≠M
 wp:w.heap.size<=P
 wd:w.heap.size<=D
 auU:w.heap.size<=M
def Sj(s m:cq)(w:ag)(e:Ending)(w':ag):Prop:=∃(P D M:aa)(gn:gu)(b7 dy cD kx km jN:ak),e=bL (.pointer (some (P,0)))/\Kept w w'/\
 Pv w P D M b7 dy cD kx km jN s m/\H6 P D M gn b7 dy cD kx km jN s m (List.replicate s.ds false) (List.replicate m.ds false) w'
def amX(cm:ak)(l:cO)(i:aa)(s:cq)(w:ag)(bE:h1 w cm l)(aD:l.sc[i]?=some s)(sh:s.ms= -1\/(0<=s.ms/\s.ms<l.sc.length))(aE:∀t∈l.sc,t.ds.length<=1000):
  bg 18 #[cm,i] w (Sj s (bl l s) w):=by
 obtain⟨i0,dG,fY,cG,eM⟩:=hy Tryz.Nu;obtain⟨dw,cM,cH,rfl,ar,ab,ad⟩:=bE;obtain⟨c5,eW,rfl,-⟩:=id ar;obtain⟨cV,cX,rfl,-⟩:=id ab;obtain⟨hM,fJ,rfl,hcS,Ro,wo⟩:=id ad;have fB:=(b2 aD).1;have RL:=aE s (fe aD);obtain⟨b,o,rfl,af,aq⟩:=wo (by omega);obtain⟨⟨t0,-⟩,⟨t1,-⟩,⟨b7,t2,b6⟩,⟨dy,t3,cY⟩,⟨cD,t4,aJ⟩⟩:=aq i s aD;unfold g' at t0 t1 t2 t3 t4;have eb:=I (show nF w (aF #[s.aM,s.ms,b7,dy,cD]) s from⟨b7,dy,cD,rfl,b6,cY,aJ⟩);obtain⟨jf,jo,rfl,-⟩:=id b6;obtain⟨hT,ij,rfl,-⟩:=id cY;obtain⟨eR,rc,rfl,-⟩:=id aJ;have aV:=(aG w).alloc (.cells #[ae c5 l.bs eW,ae cV l.tb cX,ae (some (b,o)) l.sc fJ] 26);replace t0:=aV.aI af t0;replace t1:=aV.aI af t1;replace t2:=aV.aI af t2;replace t3:=aV.aI af t3;replace t4:=aV.aI af t4;have mw:=bG af aV.size;have bo:=aB.new w 26 #[ae c5 l.bs eW,ae cV l.tb cX,ae (some (b,o)) l.sc fJ];have db:(i:J)<l.sc.length:=by omega
 have KI:=I sh;have OU:=I aq;have rY:=I aE;have hU:=I af;clear aq b6 cY aJ wo ar ab ad sh aE aD;generalize ot:l.sc.length=fO at*;have Bm:=I ot;clear ot;generalize l.bs.length=dS at*;generalize l.tb.length=dd at*;go_enter func18,ntmps18
 go_upto_region 1 with fail
 generalize w.alloc (.cells #[ae c5 dS eW,ae cV dd cX,ae (some (b,o)) fO fJ] 26)=W at*;obtain⟨cK,cR⟩:=bo.p;go_upto_region 2 with fail
 generalize Ww:W.heap.size=P at*;have I6:w.heap.size<P:=cR;generalize aL:W.alloc _=V at*;obtain⟨UI,vJ⟩:=Kept.aQ aL;clear aL;rw[Ww]at vJ;have HPP:=I Ww;clear t0 t1 t2 t3 t4 cK cR Ww;have bh:=bo.kept UI;obtain⟨aY,bq,f1⟩:=vJ.q;go_upto_region 3 with (at_make;refine rR _ rfl _ _ 108 rfl V 4 i0 (bR false) 1 underlying108 dG fY cG _ _ _ _ s.ds rfl rfl rfl rfl (by rw[eM];omega) (by unfold maxLen;omega) (bB _) ?_;intro w2 cN cu;obtain⟨NP,Eu⟩:=GU cN cu;clear cN cu;clear aY bq f1;have df:=vJ.kept Eu;have aY:=df.cell;have bq:=df.lt;have f1:=df.frozen)
 generalize QK:V.heap.size=D at*;have Ca:P<D:=by have:=vJ.lt;omega
 have Bu:Kept W (w2.setCell ⟨P,10,none⟩ (ae (some (D,0)) s.ds s.ds)):=(UI.trans Eu).setCell (p:=⟨P,10,none⟩) (by have:=HPP.out;simp only;omega) _;have Kn:=df.ba 10 (ae (some (D,0)) s.ds s.ds);have TI:=NP.far (p:=⟨P,10,none⟩) (by simp only;omega) (ae (some (D,0)) s.ds s.ds);simp only[kM,lS,qg]at Kn;clear aY bq f1 df NP Eu bh vJ UI;generalize w2.setCell ⟨P,10,none⟩ (ae (some (D,0)) s.ds s.ds)=U at*;have jE:=bo.kept Bu;obtain⟨cK,cR⟩:=jE.p;obtain⟨aY,bq,f1⟩:=Kn.q;rcases KI.out with hm|⟨Jf,po⟩
 .have Xi:s.ms<0:=by omega
  have cB:=I hm;have bM:=I (show Sj s (bl l s) w (bL (.pointer (some (P,0)))) U from by
   have e:bl l s=j':=by unfold bl;rw[aw (by omega)]
   rw[e];refine⟨P,D,D+1,none,_,_,_,bf,bf,bf,rfl,aV.trans Bu,⟨eb,⟨_,_,_,rfl,⟨none,0,rfl,bB _,by simp[j'],λh=>absurd h (by simp[j'])⟩,⟨none,0,rfl,bB _,by simp[j'],λh=>absurd h (by simp[j'])⟩,⟨none,0,rfl,bB _,by simp[j'],λh=>absurd h (by simp[j'])⟩⟩,by omega,by omega,by omega,by omega,by omega,by omega⟩,?_,TI,λh=>absurd h (by simp[j'])⟩;rw[iQ];exact Kn)
  clear hm;go_wp2_with fail
  go_ret;exact bM
 .obtain⟨k,ai⟩:=A_ Jf;have fu:k<l.sc.length:=by rw[Bm];omega
  have al:l.sc[k]?=some (l.sc[k]'fu):=bn fu;have bN:bl l s=l.sc[k]'fu:=by unfold bl;rw[aP Jf,ai,c7,al];rfl
  have rv:=rY.out _ (fe al);obtain⟨⟨u0,-⟩,⟨u1,-⟩,⟨X3,u2,b6⟩,⟨VJ,u3,cY⟩,⟨Y8,u4,aJ⟩⟩:=OU.out k _ al;have tC:=I (show nF w (aF #[.string (l.sc[k]'fu).aM,ah (l.sc[k]'fu).ms,X3,VJ,Y8]) (l.sc[k]'fu)from⟨X3,VJ,Y8,rfl,b6,cY,aJ⟩);generalize l.sc[k]'fu=m at*;have Fv:=I bN;unfold g' at u0 u1 u2 u3 u4;obtain⟨HZ,Jx,rfl,-⟩:=id b6;obtain⟨oD,fc,rfl,-⟩:=id cY;obtain⟨hO,sc,rfl,-⟩:=id aJ;have Dx:=aV.trans Bu;replace u0:=Dx.aI hU u0;replace u1:=Dx.aI hU u1;replace u2:=Dx.aI hU u2;replace u3:=Dx.aI hU u3;replace u4:=Dx.aI hU u4;have hbu:=bG hU Dx.size;have lF:(k:J)<fO:=by omega
  have Rl:((k:J)>=0):=by omega
  rw[ai]at aY;clear b6 cY aJ al bN;go_upto_region 4 with fail
  go_region
  have E8:=((((Kn.ba 5 (.string m.aM)).ba 6 m.ms).ba 7 (ae HZ m.ins Jx)).ba 8 (ae oD m.ds fc)).ba 9 (ae hO m.rs sc);simp only[kM,lS,qg]at E8;have Cr:D≠P:=by omega
  have Kl:=((((TI.far (p:=⟨P,5,none⟩) Cr (.string m.aM)).far (p:=⟨P,6,none⟩) Cr m.ms).far (p:=⟨P,7,none⟩) Cr (ae HZ m.ins Jx)).far (p:=⟨P,8,none⟩) Cr (ae oD m.ds fc)).far (p:=⟨P,9,none⟩) Cr (ae hO m.rs sc);have eO:Kept w (((((U.setCell ⟨P,5,none⟩ (.string m.aM)).setCell ⟨P,6,none⟩ m.ms).setCell ⟨P,7,none⟩ (ae HZ m.ins Jx)).setCell ⟨P,8,none⟩ (ae oD m.ds fc)).setCell ⟨P,9,none⟩ (ae hO m.rs sc)).drew:=by
   refine Kept.drew ?_
   repeat refine Kept.setCell ?_ (by simp only;omega) _
   exact Dx
  replace E8:aB (((((U.setCell ⟨P,5,none⟩ (.string m.aM)).setCell ⟨P,6,none⟩ m.ms).setCell ⟨P,7,none⟩ (ae HZ m.ins Jx)).setCell ⟨P,8,none⟩ (ae oD m.ds fc)).setCell ⟨P,9,none⟩ (ae hO m.rs sc)).drew P 110 _:=E8;replace Kl:aB (((((U.setCell ⟨P,5,none⟩ (.string m.aM)).setCell ⟨P,6,none⟩ m.ms).setCell ⟨P,7,none⟩ (ae HZ m.ins Jx)).setCell ⟨P,8,none⟩ (ae oD m.ds fc)).setCell ⟨P,9,none⟩ (ae hO m.rs sc)).drew D 4 _:=Kl;clear cK cR aY bq f1 u0 u1 u2 u3 u4 Kn TI jE Dx Bu bo hbu;generalize (((((U.setCell ⟨P,5,none⟩ (.string m.aM)).setCell ⟨P,6,none⟩ m.ms).setCell ⟨P,7,none⟩ (ae HZ m.ins Jx)).setCell ⟨P,8,none⟩ (ae oD m.ds fc)).setCell ⟨P,9,none⟩ (ae hO m.rs sc)).drew=X at*;obtain⟨aY,bq,f1⟩:=E8.q;have y3:=Kl.lt;go_upto_region 6 with (at_make;refine rR _ rfl _ _ 108 rfl X 4 i0 (bR false) 1 underlying108 dG fY cG _ _ _ _ m.ds rfl rfl rfl rfl (by rw[eM];omega) (by unfold maxLen;omega) (bB _) ?_;intro w2 cN cu;obtain⟨NP,Eu⟩:=GU cN cu;clear cN cu;clear aY bq f1;have df:=E8.kept Eu;have aY:=df.cell;have bq:=df.lt;have f1:=df.frozen)
  have Xt:P<X.heap.size:=E8.lt;have BD4:=(Kl.kept Eu).far (p:=⟨P,11,none⟩) Cr (ae (some (X,0)) m.ds m.ds);have BP4:=df.ba 11 (ae (some (X,0)) m.ds m.ds);have BM4:=NP.far (p:=⟨P,11,none⟩) (by simp only;omega) (ae (some (X,0)) m.ds m.ds);have eB:=(eO.trans Eu).setCell (p:=⟨P,11,none⟩) (by simp only;omega) (ae (some (X,0)) m.ds m.ds);simp only[kM,lS,qg]at BP4;have hwX:=eO.size;have bM:=I (show Sj s m w (bL (.pointer (some (P,0)))) (w2.setCell ⟨P,11,none⟩ (ae (some (X,0)) m.ds m.ds))from by
   refine⟨P,D,X.heap.size,some ⟨X.heap.size,0,none⟩,_,_,_,_,_,_,rfl,eB,⟨eb,tC,by omega,by omega,by omega,by omega,by omega,by omega⟩,?_,BD4,λ_=>⟨rfl,BM4⟩⟩;rw[iQ,iQ];exact BP4)
  clear aY bq f1 df NP Eu E8 Kl;generalize w2.setCell ⟨P,11,none⟩ (ae (some (X,0)) m.ds m.ds)=Y at*;go_wp2_with fail
  go_ret;rw[Fv];exact bM
def CF(v:ak):Prop:=∃A n c,v=ae A n c
def Qx(R:Lt)(n:aa)(w:ag)(e:Ending)(w':ag):Prop:=
 ∃(u0 u1 u2 bX bQ cx hx hK pE:ak)(a b d:J),e=bL (bj #[aF #[u0,u1,u2],aF #[bX,bQ,cx,hx,hK,pE],aF #[R.c,a,ah b,d]])/\Kept w w'/\(R.c=0->ft w' u0 R.bY/\gw w' u1 R.us/\R.us.length=n)/\lV R.c R.m R.d R.r a b d/\(R.c=0->(∀b,u0.ownBlock=some b->w.heap.size<=b)/\∀b,u1.ownBlock=some b->w.heap.size<=b)/\((CF u0/\CF u1/\CF u2)/\(∃z,bX=ah z)/\CF bQ/\CF cx/\CF hx/\CF hK/\CF pE)
def aaW{w:ag}{gn:gu}{M:aa}{cn:List Bool}(h:0<cn.length->gn=some ⟨M,0,none⟩/\aB w M 4 (iJ cn)):E9 w (ae gn cn cn) cn:=by
 refine⟨gn,cn.length,rfl,λhp=> ?_⟩;obtain⟨rfl,bc⟩:=h hp;refine⟨M,0,rfl,bc.lt,λj x ay i u hu=> ?_⟩;unfold blF at hu
 cases i with
 |succ i=>cases i<;>cases hu
 |zero=>
  cases hu;rw[jD,ql,lT];exact (bc.cell j).trans (oa ay)
structure Aa(W:ag)(E B:aa)(dt:J)(b7 cM bv:ak)(bA:List dh)(wr:ag):Prop where
 two:Two W wr none E
 ik:aB wr E 67 #[dt,b7,bf,bf,cM,bv]
 row:cb wr B 94 lq 2 cM bA
 a1:E<B
def Aa.keep{W wr w':ag}{E B:aa}{dt:J}{b7 cM bv:ak}{bA:List dh}(h:Aa W E B dt b7 cM bv bA wr)(ai:Kept wr w'):Aa W E B dt b7 cM bv bA w':=
 ⟨h.two.trans (Two.ky ai) (.inl rfl),h.ik.kept ai,h.row.lk ai,h.a1⟩
def Aa.JH{W wr w':ag}{E B:aa}{dt:J}{b7 cM bv:ak}{bA:List dh}{o:Obj}(h:Aa W E B dt b7 cM bv bA wr)(ad:(wr.alloc o).grownBy w' cM.ownBlock):
  oH wr w' (λb=>cM.ownBlock≠some b)/\cM.ownBlock≠some E/\aB w' E 67 #[dt,b7,bf,bf,cM,bv]:=by
 have dH:oH wr w' (λb=>cM.ownBlock≠some b):=λb af aA=>(ad.block b (by simp;omega) (λe=>aA e.symm)).trans (wL wr o b af);have Jq:cM.ownBlock≠some E:=λe=>by have:=(iF h.row _ e).1;have:=h.a1;omega
 exact⟨dH,Jq,BJ h.ik dH Jq⟩
def Aa.app{W wr w':ag}{E B n:aa}{dt:J}{b7 cM bv:ak}{bA:List dh}{t:dh}{o:Obj}{v':ak}(h:Aa W E B dt b7 cM bv bA wr)(bc:W.heap.size<=B)(aH:bA.length=n)(ab:w'.ownsRow B 94 2 v' (n+1) (bA.flatMap lq++lq t))(ad:(wr.alloc o).grownBy w' cM.ownBlock):
  Aa W E B dt b7 v' bv (bA++[t]) (w'.setCell (E,4) v'):=by
 subst aH;have XH:∀g,cM.ownBlock=some g->B<=g:=λg al=>(iF h.row g al).1;obtain⟨dH,Jq,hBE⟩:=h.JH ad;have hEB:=h.a1;have Me:cb w' B 94 lq 2 v' (bA++[t]):=cb.snoc ab;refine⟨⟨ad.os.trans h.two.os,ad.tape.trans h.two.tape,ad.output.trans h.two.output,?_,λk ai a1 aJ=> ?_⟩,?_,rJ Me (w':=w'.setCell ⟨E,4,none⟩ v') (ok:=λb=>b≠E) (λb _ aA=>jQ w' ⟨E,4,none⟩ v' b aA) (λb af=>by have:=(iF Me b af).1;omega),h.a1⟩
 .have:=ad.size;have:=h.two.size;simp at*;omega
 .have qM:=h.two.size;exact (jQ w' ⟨E,4,none⟩ v' k a1).trans ((dH k (by omega) (λe=>by have:=XH _ e;omega)).trans (h.two.block k ai a1 aJ))
 .have:=hBE.ba 4 v';simpa using this
def Oj{w w':ag}{E R g:aa}{t:dC}{cs:ho}(h:Two w w' (some R) E)(bc:aB w g t cs)(ab:g≠E)(ad:g≠R):aB w' g t cs:=(h.block g bc.lt ab (by simp;omega)).trans bc
def aoN(w:ag)(g:aa)(cK aY a' bu:ak):oH w ((((w.setCell (g,0) cK).setCell (g,1) aY).setCell (g,2) a').setCell (g,3) bu) (λb=>b≠g):=λb _ aA=>
 (jQ _ ⟨g,3,none⟩ bu b aA).trans ((jQ _ ⟨g,2,none⟩ a' b aA).trans ((jQ _ ⟨g,1,none⟩ aY b aA).trans (jQ w ⟨g,0,none⟩ cK b aA)))
def zK(w0:ag)(p g3 H:aa)(dt:J)(b7 c1 cM bv u:ak)(hv:List bC)(eZ:aW)(cF cn oB lu a b d:J)(dz:aa)(cj:ag):Prop:=
 aB cj g3 37 #[cF,a,ah b,d]/\Two w0 cj none p/\w0<=g3/\(cF=0->∃dy,aB cj p 67 #[dt,b7,dy,c1,cM,bv]/\ft cj dy hv/\gw cj u eZ/\eZ.length=dz/\(∀b,dy.ownBlock=some b->H<=b/\b<cj.heap.size/\b≠g3)/\∀b,u.ownBlock=some b->H<=b)/\lV cF cn oB lu a b d
def zK.after{w0 X w':ag}{p:aa}{dt:J}{b7 c1 cM bv u:ak}{hv:List bC}{eZ:aW}{cF cn oB lu a b d:J}{dz:aa}(bk:Two w0 X none p)(bT:Two X w' none p)(az:lV cF cn oB lu a b d)(h:cF=0->∃dy,aB w' p 67 #[dt,b7,dy,c1,cM,bv]/\ft w' dy hv/\gw w' u eZ/\eZ.length=dz/\(∀b,dy.ownBlock=some b->X.heap.size<=b/\b<w'.heap.size)/\∀b,u.ownBlock=some b->X.heap.size<=b):
  zK w0 p w' X dt b7 c1 cM bv u hv eZ cF cn oB lu a b d dz (w'.alloc (.cells #[cF,a,ah b,d] 37)):=by
 have ai:=(aG w').alloc (.cells #[cF,a,ah b,d] 37);have nH:=bk.trans bT (.inl rfl);refine⟨aB.new w' _ _,nH.trans (Two.ky ai) (.inl rfl),nH.size,λaq=> ?_,az⟩;obtain⟨dy,g1,g2,g3,g4,g5,g6⟩:=h aq;refine⟨dy,g1.kept ai,g2.kept ai,g3.kept ai,g4,λb af=>⟨(g5 b af).1,by have:=(g5 b af).2;simp;omega,by have:=(g5 b af).2;omega⟩,g6⟩
def zK.before{w0 X w':ag}{p g3:aa}{dt:J}{b7 c1 cM bv u:ak}{hv:List bC}{eZ:aW}{cF cn oB lu a b d:J}{dz:aa}(bk:Two w0 X none p)(qJ:w0<=g3)(Ri:g3≠p)(al:aB w' g3 37 #[(),(),(),()])(hgX:g3<X)(bT:Two X w' none p)(az:lV cF cn oB lu a b d)(h:cF=0->∃dy,aB w' p 67 #[dt,b7,dy,c1,cM,bv]/\ft w' dy hv/\gw w' u eZ/\eZ.length=dz/\(∀b,dy.ownBlock=some b->X.heap.size<=b/\b<w'.heap.size)/\∀b,u.ownBlock=some b->X.heap.size<=b):
  zK w0 p g3 X dt b7 c1 cM bv u hv eZ cF cn oB lu a b d dz ((((w'.setCell (g3,0) cF).setCell (g3,1) a).setCell (g3,2) (ah b)).setCell (g3,3) d):=by
 have dH:=aoN w' g3 cF a (ah b) d;have nH:=bk.trans bT (.inl rfl);refine⟨?_,?_,qJ,λaq=> ?_,az⟩
 .have:=(((al.ba 0 cF).ba 1 a).ba 2 (ah b)).ba 3 d;simpa using this
 .exact (((nH.oA qJ _ _).oA qJ _ _).oA qJ _ _).oA qJ _ _
 .obtain⟨dy,g1,g2,g4,g5,g6,g7⟩:=h aq;have ey:∀b,dy.ownBlock=some b->b≠g3:=λb af=>by have:=(g6 b af).1;omega
  have xE:∀b,u.ownBlock=some b->b≠g3:=λb af=>by have:=g7 b af;omega
  exact⟨dy,BJ g1 dH Ri.symm,g2.stays dH ey,g4.stays dH xE,g5,λb af=>⟨(g6 b af).1,by simp;exact (g6 b af).2,ey b af⟩,g7⟩
def abG{w w':ag}{R:Lt}{n:aa}{cF cn oB lu a b d:J}{x:List bC}{us:aW}(h:R=⟨x,us,cF,cn,oB,lu⟩)(ar:cF≠0)(az:lV cF cn oB lu a b d)(ai:Kept w w'):Qx R n w (bL (bj #[aF #[bf,bf,bf],aF #[(),bf,bf,bf,bf,bf],aF #[cF,a,b,d]])) w':=by
 subst h;have aO:CF bf:=⟨_,_,_,rfl⟩;exact⟨_,_,_,_,_,_,_,_,_,a,b,d,rfl,ai,λh=>absurd h ar,az,λh=>absurd h ar,⟨aO,aO,aO⟩,⟨_,rfl⟩,aO,aO,aO,aO,aO⟩
def aew{Lf:gD}{E:dT}{rs:List br}{nb:List Bool}(o:aW)(ds:List bC)(us:aW):(lN Lf E rs nb o ds us).bY.length=ds.length:=by
 have h:=congrArg Prod.fst (JX (Lf:=Lf) (E:=E) (rs:=rs) (nb:=nb) o ds us);simp only at h;rw[h,Y6]
def w9.JH{W:ag}{E R B:aa}{dt:J}{b7 cM bv c1 cD:ak}{acc:List (List bC)}{wr w':ag}{o:Obj}(h:w9 W E R B dt b7 cM bv c1 cD acc wr)(ad:(wr.alloc o).grownBy w' c1.ownBlock):
  oH wr w' (λb=>c1.ownBlock≠some b)/\c1.ownBlock≠some E/\aB w' E 67 #[dt,b7,bf,c1,cM,bv]:=by
 have dH:oH wr w' (λb=>c1.ownBlock≠some b):=λb af aA=>(ad.block b (by simp;omega) (λe=>aA e.symm)).trans (wL wr o b af);have Jq:c1.ownBlock≠some E:=λe=>by
  obtain⟨us,-,g,-⟩:=h.xI;have:=(iF g _ e).1;have:=h.a1;omega
 exact⟨dH,Jq,BJ h.ik dH Jq⟩
def La.JH{W:ag}{E R B n:aa}{dt:J}{b7 cM bv c1 cD:ak}{acc:List (List bC)}{wr w':ag}{o:Obj}(h:La W E R B dt b7 cM bv c1 cD acc n wr)(ad:(wr.alloc o).grownBy w' cD.ownBlock):
  aB w' R 64 #[bf,bf,cD]:=by
 have dH:oH wr w' (λb=>cD.ownBlock≠some b):=λb af aA=>(ad.block b (by simp;omega) (λe=>aA e.symm)).trans (wL wr o b af);exact BJ h.ej dH (λe=>by
  obtain⟨xs,g⟩:=h.ro;have:=(iF g _ e).1;have:=h.aJ;omega)
def w9.ade{W:ag}{E R B:aa}{dt:J}{b7 cM bv c1 cD:ak}{acc:List (List bC)}{wr:ag}(h:w9 W E R B dt b7 cM bv c1 cD acc wr):(∀g,c1.ownBlock=some g->g<wr.heap.size)/\∀g,cD.ownBlock=some g->g<wr.heap.size:=by
 obtain⟨us,-,g,-⟩:=h.xI;obtain⟨xs,ju⟩:=h.ro;exact⟨λq az=>(iF g q az).2,λq az=>(iF ju q az).2⟩
def FU{w:ag}{g E i:aa}{t:dC}{cs:ho}{v:ak}(h:aB w g t cs)(bU:g≠E):aB (w.setCell (E,i) v) g t cs:=h.far (p:=⟨E,i,none⟩) bU v
def ap3{w w':ag}{E:aa}{r:Option aa}(h:Two w w' none E):Two w w' r E:=⟨h.os,h.tape,h.output,h.size,λk ab ad _=>h.block k ab ad (by simp)⟩
def ap4{w W wr:ag}{E R:aa}(h:Two W wr (some R) E)(ai:Kept w W)(a1:w.heap.size<=E)(aJ:w.heap.size<=R):Kept w wr:=
 ⟨h.os.trans ai.os,h.tape.trans ai.tape,h.output.trans ai.output,fN ai.size h.size,λb af=>(h.block b (bG af ai.size) (by omega) (by simp;omega)).trans (ai.block b af)⟩
structure jT{β:Type}(w:ag)(B T k:aa)(f:β->List ak)(ok:aa->Prop)(Q:β->ag->Prop)(v:ak)(cA:List β):Prop where
 g:cb w B T f k v cA
 q:∀y∈cA,ea (λb=>ok b/\v.ownBlock≠some b) w (Q y)
section
variable {β α:Type} {w w' dc:ag} {B T k:aa} {f:β->List ak} {ok:aa->Prop} {Q:β->ag->Prop} {v v6:ak} {cA:List β}
def jT.nil:jT w B T k f ok Q bf []:=⟨cb.nil _ _ _,λ_ h=>by cases h⟩
def jT.kept(h:jT w B T k f ok Q v cA)(ai:Kept w w'):jT w' B T k f ok Q v cA:=⟨h.g.lk ai,λy bZ=>(h.q y bZ).kept ai⟩
def jT.snoc{o:Obj}{y:β}(h:jT w B T k f ok Q v cA)(bd:dc.ownsRow B T k v6 (cA.length+1) (cA.flatMap f++f y))(a8:(w.alloc o).grownBy dc v.ownBlock)(dk:v6.ownBlock=v.ownBlock\/v6.ownBlock=some (w.alloc o).heap.size)(az:ea (λb=>ok b/\v.ownBlock≠some b) w (Q y)):jT dc B T k f ok Q v6 (cA++[y]):=by
 have aO:=a8.size;simp at aO;refine⟨cb.snoc bd,λz bP=> ?_⟩;have XV:ea (λb=>ok b/\v.ownBlock≠some b) w (Q z):=by
  rcases k5.1 bP with bP|bP
  .exact h.q z bP
  .rw[kb]at bP;exact bP▸az
 refine XV.step (by omega) (λb af aA=> ?_) (λb af aA=>⟨aA.1,λe=> ?_⟩)
 .rw[a8.block b (by simp;omega) (λe=>aA.2 e.symm),wL w o b af]
 .rcases dk with aR|aR
  .exact aA.2 (aR▸e)
  .rw[aR]at e;have:=cJ e;simp at this;omega
def jT.CZ{P:ag->aa->aa->α->Prop}{d_:β->α}(bV:∀y,(f y).length=k)(lay:∀w b o y,Fb w b o (f y)->Q y w->P w b o (d_ y))(h:jT w B T k f ok Q v cA)(av:cA.length<=8796093022208)(bc:∀b,B<=b->ok b):ea ok w λu=>c0 k P u v (cA.map d_):=λu hu af=>by
 have al:cb u B T f k v cA:=rJ (ok:=λb=>B<=b) h.g (λb D5 aA=>af b D5 (bc b aA)) (λb e=>(iF h.g b e).1);have xt:∃A c,v=ae A cA c/\cA.length<=c:=by
  rcases al.2 with⟨rfl,aH⟩|⟨g,cap,cur,rfl,_,_,ab,_⟩
  .exact⟨none,0,by rw[aH],by omega⟩
  .exact⟨_,_,rfl,ab⟩
 obtain⟨A,c,rfl,aq⟩:=xt;obtain⟨pH,fF,e,aj⟩:=cb.jx bV al;simp only[i_,tu]at e;obtain⟨rfl,rfl⟩:=e;refine⟨A,c,by rw[er],by rw[er];exact aq,by rw[er];exact av,λhp=> ?_⟩;rw[er]at hp;obtain⟨b,off,a7,oj,ef⟩:=aj hp;refine⟨b,off,a7,oj,λj x ay=> ?_⟩;rw[hS,Da]at ay;obtain⟨y,bZ,rfl⟩:=ay;refine lay _ _ _ _ (λi lO ku=>ef j y bZ i lO ku) (h.q y (fe bZ) u hu (λj7 D5 aA=>af j7 D5 aA.1))
end
def CU(y:br×ak×ak):dN:=[.string y.1.aM,y.1.bx,y.1.bJ,y.1.d_,y.1.cZ,y.1.cT,y.2.1,y.2.2,y.1.src]
def ael(y:br×ak×ak):(CU y).length=9:=rfl
structure RlB(x:br):Prop where
 aM:x.aM.size<=140737488355328
 bx:ow x.bx
 bJ:ow x.bJ
 d_:ow x.d_
 cZ:ow x.cZ
 cT:ow x.cT
 src:x.src.size<=140737488355328
def EI(y:br×ak×ak)(w:ag):Prop:=RlB y.1/\iU w y.2.1 y.1.g/\iU w y.2.2 y.1.v
def aem(w:ag)(b o:aa)(y:br×ak×ak)(h:Fb w b o (CU y))(az:EI y w):lz w b o y.1:=
 ⟨⟨h 0 _ rfl,az.1.aM⟩,⟨h 1 _ rfl,az.1.bx⟩,⟨h 2 _ rfl,az.1.bJ⟩,⟨h 3 _ rfl,az.1.d_⟩,⟨h 4 _ rfl,az.1.cZ⟩,⟨h 5 _ rfl,az.1.cT⟩,⟨_,h 6 _ rfl,az.2.1⟩,⟨_,h 7 _ rfl,az.2.2⟩,⟨h 8 _ rfl,az.1.src⟩⟩
def lz.Iy{w:ag}{b o:aa}{x:br}(h:lz w b o x):RlB x:=by
 obtain⟨ar,ab,ad,ao,aR,bw,-,-,eI⟩:=h;exact⟨ar.2,ab.2,ad.2,ao.2,aR.2,bw.2,eI.2⟩
def adz{w:ag}{v:ak}{xs:List cw}(h:iU w v xs):∃A c,v=ae A xs c:=by
 obtain⟨A,c,e,-⟩:=h.1.at_;exact⟨A,c,e⟩
end Go.Proofs.YtilhklpfkgbikaaGreatDoor
