import Derived.Test.YtilhklpfkgbikaaGreatDoorC
import Derived.SizedLaws
set_option linter.all false
namespace Go.Proofs.YtilhklpfkgbikaaGreatDoor
open Go.RowKit Go.Proofs.Tryz
set_option maxRecDepth 100000
set_option maxHeartbeats 8000000
section
open Go.ChangeShapes Go.WideShapes Go.ChangeAt Go.RowKit Go.Joins Go.Deep
def BA(w:ag)(k:aa)(p:ag->aa->aa->Prop)(v:ak):Prop:=
 ∃A n cap,v= .slice A n cap/\n<=cap/\n<=8796093022208/\(0<n->∃b off,A=some ⟨b,off,none⟩/\b<w.heap.size/\∀j,j<n->p w b (off+j*k))
def BA.kept{w w':ag}{k:aa}{p:ag->aa->aa->Prop}{v:ak}(hp:q' p)(h:BA w k p v)(ai:Kept w w'):BA w' k p v:=by
 obtain⟨A,n,cap,aK,aq,aH,aj⟩:=h;refine⟨A,n,cap,aK,aq,aH,λar=> ?_⟩;obtain⟨b,off,a7,af,aq⟩:=aj ar;exact⟨b,off,a7,bG af ai.size,λj ay=>hp _ _ _ _ ai af (aq j ay)⟩
def BA.at_{w:ag}{k:aa}{p:ag->aa->aa->Prop}{v:ak}(h:BA w k p v):∃A n cap,v= .slice A n cap/\n<=cap/\n<=8796093022208/\(0<n->∃b off,A=some ⟨b,off,none⟩/\b<w.heap.size/\∀j,j<n->p w b (off+j*k)):=h
def z'(k:aa)(p:ag->aa->aa->Prop)(w:ag)(b o:aa):Prop:=∃v,w.cell? (b,o)=some v/\BA w k p v
def z'.kept{k:aa}{p:ag->aa->aa->Prop}(hp:q' p):q' (z' k p):=λ_ _ b o ai af⟨v,h,g⟩=>⟨v,ai.aI af h,g.kept hp ai⟩
def H5(w:ag)(b o:aa):Prop:=∃v xs,w.cell? (b,o)=some v/\DC w v xs/\xs.length<=8796093022208/\∀x∈xs,-9223372036854775808<=x.n/\x.n<=9223372036854775807
def H5.kept:q' H5:=λ_ _ b o ai af⟨v,xs,h,g,l⟩=>⟨v,xs,ai.aI af h,g.kept ai,l⟩
def TyP(w:ag)(b o:aa):Prop:=gP w b o/\gP w b (o+1)
def TyP.kept:q' TyP:=λ_ _ _ _ ai af⟨ar,ab⟩=>⟨gP.kept _ _ _ _ ai af ar,gP.kept _ _ _ _ ai af ab⟩
def Hw(w:ag)(b o:aa):Prop:=lb w b o/\gP w b (o+1)/\gP w b (o+2)
def Hw.kept:q' Hw:=λ_ _ _ _ ai af⟨ar,ab,ad⟩=>⟨lb.kept _ _ _ _ ai af ar,gP.kept _ _ _ _ ai af ab,gP.kept _ _ _ _ ai af ad⟩
def PA(w:ag)(b o:aa):Prop:=gP w b o/\gP w b (o+1)/\gP w b (o+2)/\gP w b (o+3)/\gP w b (o+4)
def PA.kept:q' PA:=λ_ _ _ _ ai af⟨ar,ab,ad,ao,aR⟩=>⟨gP.kept _ _ _ _ ai af ar,gP.kept _ _ _ _ ai af ab,gP.kept _ _ _ _ ai af ad,gP.kept _ _ _ _ ai af ao,gP.kept _ _ _ _ ai af aR⟩
def PF(w:ag)(b o:aa):Prop:=lb w b o/\gP w b (o+1)/\gP w b (o+2)/\gP w b (o+3)/\gP w b (o+4)/\z' 5 PA w b (o+5)
def PF.kept:q' PF:=λ_ _ _ _ ai af⟨ar,ab,ad,ao,aR,bw⟩=>⟨lb.kept _ _ _ _ ai af ar,gP.kept _ _ _ _ ai af ab,gP.kept _ _ _ _ ai af ad,gP.kept _ _ _ _ ai af ao,gP.kept _ _ _ _ ai af aR,z'.kept PA.kept _ _ _ _ ai af bw⟩
def PE(w:ag)(b o:aa):Prop:=∃s:ez,w.cell? (b,o)=some (.string s)/\s.size<=140737488355328
def PE.kept:q' PE:=λ_ _ b o ai af⟨s,h,g⟩=>⟨s,ai.aI af h,g⟩
def Pz(w:ag)(b o:aa):Prop:=lb w b o/\gP w b (o+1)/\gP w b (o+2)/\gP w b (o+3)/\gP w b (o+4)/\gP w b (o+5)/\H5 w b (o+6)/\H5 w b (o+7)/\PE w b (o+8)
def Pz.kept:q' Pz:=λ_ _ _ _ ai af⟨ar,ab,ad,ao,aR,bw,eL,hX,eI⟩=>
 ⟨lb.kept _ _ _ _ ai af ar,gP.kept _ _ _ _ ai af ab,gP.kept _ _ _ _ ai af ad,gP.kept _ _ _ _ ai af ao,gP.kept _ _ _ _ ai af aR,gP.kept _ _ _ _ ai af bw,H5.kept _ _ _ _ ai af eL,H5.kept _ _ _ _ ai af hX,PE.kept _ _ _ _ ai af eI⟩
def PC(w:ag)(b o:aa):Prop:=lb w b o/\gP w b (o+1)/\z' 3 Hw w b (o+2)/\z' 3 Hw w b (o+3)/\z' 9 Pz w b (o+4)
def PC.kept:q' PC:=λ_ _ _ _ ai af⟨ar,ab,ad,ao,aR⟩=>⟨lb.kept _ _ _ _ ai af ar,gP.kept _ _ _ _ ai af ab,z'.kept Hw.kept _ _ _ _ ai af ad,z'.kept Hw.kept _ _ _ _ ai af ao,z'.kept Pz.kept _ _ _ _ ai af aR⟩
def UK(w:ag)(v:ak):Prop:=∃dw cM cH,v= .agg #[dw,cM,cH]/\BA w 2 lb dw/\BA w 6 PF cM/\BA w 5 PC cH
def UK.kept{w w':ag}{v:ak}(h:UK w v)(ai:Kept w w'):UK w' v:=by
 obtain⟨dw,cM,cH,aK,ar,ab,ad⟩:=h;exact⟨dw,cM,cH,aK,ar.kept lb.kept ai,ab.kept PF.kept ai,ad.kept PC.kept ai⟩
section
variable {H:Type} {enc:dC×ak->H} {w:ag}
def Lp(t:dC)(d:DataW H):Prop:=∀n∈d.weights prog t,n<=140737488355328
def iV(enc:dC×ak->H)(w:ag)(t:dC)(cs:dN):Prop:=∃fuel x,DataW.trod enc prog w 0 (λ_=>true) true fuel t cs=some x/\Lp t x.1
def aqG{e:dC}{d:DataW H}{l:List (DataW H)}(aE:d∈l){n:aa}(aH:n∈d.weights prog e):n∈DataW.weightsAll prog e l:=by
 induction l with
 |nil=>cases aE
 |cons x r bO=>
  rw[DataW.weightsAll];rcases fM.1 aE with rfl|aE
  .exact Ow _ aH
  .exact Hi _ (bO aE)
def iV.reads{t:dC}{cs:dN}(h:iV enc w t cs):Reads enc w t cs:=by
 obtain⟨fuel,x,ab,_⟩:=h;exact⟨fuel,x,ab⟩
def iV.sub{t:dC}{il:Array Field}{cs:dN}(cr:prog.underlying t=some (.struct il))(h:iV enc w t cs)(i o k:aa)(T:dC)(f:Field)(bV:il[i]?=some f)(aA:f.offset=o)(bT:f.type=T)(ai:prog.cellsOf T=k):iV enc w T ((cs.drop o).take k):=by
 obtain⟨fuel,x,h,hw⟩:=h;obtain⟨xs,n,_,aj,_,av,al⟩:=DataW.trod_struct cr h;have aD:i<il.size:=(nW.1 bV).1;have:=al i f bV;rw[bn (by omega),bT,ai,aA]at this;refine⟨n,_,this,λm hm=>hw m ?_⟩;rw[aj];simp only[DataW.weights,cr];refine DataW.weights_mem_each (j:=i) (t:=T) (d:=xs[i].1) ?_ ?_ m hm
 .rw[hS,Ba,bV];simp[bT]
 .rw[hS,bn (by omega)];rfl
def iV.xM{t:dC}{il:Array Field}{cs:dN}(cr:prog.underlying t=some (.struct il))(h:iV enc w t cs)(i o:aa)(T:dC)(f:Field)(bV:il[i]?=some f)(aA:f.offset=o)(bT:f.type=T)(ai:prog.cellsOf T=1)(aN:o<cs.length):
  ∃u,cs[o]?=some u/\iV enc w T [u]:=by
 have ab:=h.sub cr i o 1 T f bV aA bT ai;refine⟨cs[o],bn aN,?_⟩;rw[jA aN]at ab;exact ab
def iV.slice{t e:dC}{k:aa}{v:ak}(cr:prog.underlying t=some (.slice e))(hC:prog.cellsOf e=k)(ai:0<k)(z:aa)(bP:prog.bytesOf e=z)(XW:16<=z)(hlen:∀cs,Reads enc w e cs->cs.length=k)(h:iV enc w t [v]):
  ∃A n cap,v= .slice A n cap/\n<=cap/\n<=8796093022208/\(0<n->∃b off,A=some ⟨b,off,none⟩/\b<w.heap.size/\
   ∀i,i<n->∃cs,cs.length=k/\(∀j,j<k->w.cell? ⟨b,off+i*k+j,none⟩=cs[j]?)/\iV enc w e cs):=by
 obtain⟨fuel,x,h,hw⟩:=h;rcases open_slice cr h with⟨hR,_⟩|⟨a,len,cap,m,n,D,ats,hR,af,av,hm,jW,aj,aD⟩
 .simp only[qk,kN]at hR;exact⟨none,0,0,hR,bB _,by omega,λh=>absurd h (by decide)⟩
 .simp only[k3]at jW;subst jW;simp only[qk,kN]at hR;unfold maxLen at hm;have rr:len<=8796093022208:=by
   have wk:=hw ((len+(m-len))*prog.bytesOf e) (by
    rw[aj];simp only[DataW.weights,cr];exact fM.2 (.inl (by simp)))
   rw[bP]at wk;have V8:len*16<=(len+(m-len))*z:=Tt (by omega) XW;omega
  refine⟨some a,len,_,hR,av,rr,λhp=> ?_⟩;have hex:∀i,i<len->∃cs,cs.length=k/\(∀j,j<k->w.cell? ((a.add (i*k)).add j)=cs[j]?)/\iV enc w e cs:=by
   intro i fB;obtain⟨LN,aq,sj⟩:=aD i (by omega);rw[hC]at aq;obtain⟨_,oO,dK⟩:=World.cells?_some aq;have aC:iV enc w e LN:=⟨_,_,sj,λq az=>hw q (by
    rw[aj];simp only[DataW.weights,cr];exact qY _ (Ow _ (aqG (o3.2 ⟨i,me.2 fB,rfl⟩) az)))⟩
   exact⟨LN,hlen _ aC.reads,λj ay=>dK j ay,aC⟩
  obtain⟨Vr,hl0,hG,_⟩:=hex 0 hp;have cK:w.cell? ((a.add (0*k)).add 0)=some (Vr[0]'(by omega)):=by rw[hG 0 ai,bn]
  have af:=aa9 cK;rw[PZ,PZ]at af;obtain⟨b,o,sp⟩:=a;have ir:sp=none:=by
   have:=World.cell?_spot cK;simpa[Addr.add] using this
  subst ir;refine⟨b,o,rfl,af,λi fB=> ?_⟩;obtain⟨cs,gK,bd,a8⟩:=hex i fB;refine⟨cs,gK,λj ay=> ?_,a8⟩;rw[<-bd j ay,PO,PO]
def GO{t:dC}{il:Array Field}{k:aa}(cr:prog.underlying t=some (.struct il))(hC:prog.cellsOf t=k){cs:dN}(h:Reads enc w t cs):cs.length=k:=(h.length cr).trans hC
def iV.Zg{t:dC}{il:Array Field}{cs:dN}{b o:aa}{k:aa}(h:iV enc w t cs)(av:cs.length=k)(aq:∀j,j<k->w.cell? ⟨b,o+j,none⟩=cs[j]?)(cr:prog.underlying t=some (.struct il))(i q:aa)(f:Field)(bV:il[i]?=some f)(aA:f.offset=q)(bT:f.type=9)(az:q<k):lb w b (o+q):=by
 obtain⟨u,g,r⟩:=h.xM cr i q 9 f bV aA bT (by kernel_rfl) (by omega);obtain⟨s,rfl⟩:=r.reads.SS;exact⟨s,(aq q az).trans g⟩
def iV.SS{u:ak}(h:iV enc w 9 [u]):∃s:ez,u= .string s/\s.size<=140737488355328:=by
 obtain⟨fuel,x,h,hw⟩:=h;obtain⟨s,aQ,a_,_⟩:=DataW.trod_string underlying9 h;simp only[qk,kN]at aQ;refine⟨s,aQ,?_⟩;have:=hw s.data.toList (by rw[a_];simp[DataW.weights]);rw[Tj]at this;exact this
def iV.sl{t:dC}{il:Array Field}{cs:dN}{b o:aa}{k:aa}(h:iV enc w t cs)(av:cs.length=k)(aq:∀j,j<k->w.cell? ⟨b,o+j,none⟩=cs[j]?)(cr:prog.underlying t=some (.struct il))(i q:aa)(f:Field)(bV:il[i]?=some f)(aA:f.offset=q)(bT:f.type=3)(az:q<k):gP w b (o+q):=by
 obtain⟨u,g,r⟩:=h.xM cr i q 3 f bV aA bT (by kernel_rfl) (by omega);obtain⟨n,rfl⟩:=r.reads.alD;exact⟨n,(aq q az).trans g⟩
def ZA:prog.cellsOf 94=2:=by kernel_rfl
def Reads.int64{u:ak}(h:Reads enc w 3 [u]):∃n:J,u= .int .i64 n/\ -9223372036854775808<=n/\n<=9223372036854775807:=by
 obtain⟨n,e,hw⟩:=h.int;simp only[qk,kN]at e;refine⟨n,e,?_⟩;rw[Lit.wf,nB]at hw;have ab:IntKind.i64.min<=n:=um hw.1;have ad:n<=IntKind.i64.max:=um hw.2;rw[show IntKind.i64.min= -9223372036854775808 from by decide]at ab;rw[show IntKind.i64.max=9223372036854775807 from by decide]at ad;exact⟨ab,ad⟩
def adL{v:ak}(h:iV enc w 102 [v]):∃xs:List cw,DC w v xs/\xs.length<=8796093022208/\∀x∈xs,-9223372036854775808<=x.n/\x.n<=9223372036854775807:=by
 obtain⟨A,n,cap,rfl,aq,aH,aj⟩:=h.slice aqf aa2 (by decide) 16 (by kernel_rfl) (by decide) (λcs h=>GO underlying101 aa2 h);rcases zB n with ar|hp
 .subst ar;exact⟨[],⟨A,cap,rfl,λh=>absurd h (by simp)⟩,by simp,λx h=>(by cases h)⟩
 obtain⟨b,off,rfl,af,hR⟩:=aj hp;obtain⟨xs,av,oT⟩:=LL (p:=λi(x:cw)=>(∀j u,(Ex x)[j]?=some u->w.cell? ⟨b,off+i*2+j,none⟩=some u)/\(-9223372036854775808<=x.n/\x.n<=9223372036854775807)) n (λi aD=>by
  obtain⟨cs,gK,bd,a8⟩:=hR i aD;obtain⟨o,aA⟩:=a8.sl gK bd underlying101 0 0 _ rfl rfl rfl (by decide);obtain⟨u1,g1,hh⟩:=a8.xM underlying101 1 1 3 _ rfl rfl rfl (by kernel_rfl) (by omega);obtain⟨m,rfl,Rr⟩:=hh.reads.int64;have hm:=(bd 1 (by decide)).trans g1;refine⟨⟨o,m⟩,λj u hu=> ?_,Rr⟩;match j,hu with
  |0,hu=>obtain rfl:=cJ hu;exact aA
  |1,hu=>obtain rfl:=cJ hu;exact hm
  |j+2,hu=>simp[Ex]at hu)
 refine⟨xs,⟨_,cap,by rw[av],λ_=>⟨b,off,rfl,af,λj x aj i u hu=>(oT j x aj).1 i u hu⟩⟩,by omega,λx aj=> ?_⟩;obtain⟨j,ay⟩:=mc aj;exact (oT j x ay).2
def aqO{bA:List dC}{ds:List (DataW H)}(h:(DataW.weightsEach prog bA ds).all (·<=reachBytes)=true){j:aa}{t:dC}{d:DataW H}(cr:bA[j]?=some t)(aE:ds[j]?=some d):Lp t d:=by
 intro n aH;have:=Tp.1 h n (DataW.weights_mem_each cr aE n aH);have ad:=reachBytes_lt;simp only[gg]at this;omega
def alV{F:FuncId}{fn:Func}{s:ChangeSpec}{os:Os}{laid:List (String×DataW Unit)}(started:os.Started)(am1:prog.inits.idxOf? F=none)(D8:prog.funcs[F]?=some fn)(qP:s.vars=[])(akR:fn.resultTypes=#[4])(ak5:∀ds:List (DataW H),ds.length=fn.params.toList.length->s.fn H (ds++[])={results:=[.lit (.bool true)],args:=ds})(akP:fn.params.toList.all (λt=>prog.readableRec t&&decide (t<prog.types.size))=true)(witness:∃(w:ag)(tape:Tape)(i:Input),w.os=os/\(w.forCall tape i).Shaped Tryz.checked.prog/\i.vars=[]/\Input.okWide Tryz.checked.prog (w.forCall tape i) .any w F i/\
   (OpenSpec.ofChange s).preRow enc Tryz.checked.prog fn [] false laid (w.forCall tape i).memory i.args/\({}:Assume).holds Tryz.checked.prog (lone (Frame.enter Tryz.checked.prog F i.args .normal) [] (w.forCall tape i)))(walk:∀(W:ag)(base:aa)(args:ho)(ds:List (DataW H))(ps:List MemPlace),
   (∀(j:aa)t v,fn.params[j]?=some t->args[j]?=some v->Value.okWide prog W .any base t v)->
   DataW.TrodAll enc prog W 0 (λ_=>true) true fn.params.toList args.toList ds ps->laidMetH prog laid W->(∀(j:aa)t d,fn.params.toList[j]?=some t->ds[j]?=some d->Lp t d)->W.ShapedOpen prog->Calls prog F args W (aay W))(mj:Stop.Interp):
  ReturnsInHanded {} Tryz.checked os F .any ((OpenSpec.ofChange s).preRow enc prog fn [] false laid) (((OpenSpec.ofChange s).at mj).post enc prog fn false true false false):=by
 refine returnsInHanded_of_row (C:=Tryz.checked) (s:=OpenSpec.ofChange s) own started am1 D8 witness ?_;intro W base args ds gs before p5 fT _ _ QW bE hSh _;have hW':=fT;obtain⟨p,q,a7,c6,rfl,_,_⟩:=fT;have Nl:(OpenSpec.ofChange s).vars=[]:=qP;rw[Nl]at c6;obtain⟨rfl,rfl⟩:=trodVars_none c6;have We:DataW.TrodAll enc prog W 0 (λ_=>true) true fn.params.toList args.toList ds p:=a7;refine (walk W base args ds p p5 We bE (λj t d cr aE=>aqO QW (j:=j) (by rw[lQ (b2 cr).1];exact cr) (by rw[hj];exact aE)) hSh).mono λe UZ⟨he,ai⟩=> ?_;subst he;have tX:=ak5 ds (ap0 We).1;refine⟨_,rfl,ds,[],_,[],p,[],hW',?_,?_,?_,ai.frame _,λh=>by cases h⟩
 .show DataW.TrodAll _ _ _ _ _ _ _ _ (s.fn H (ds++[])).results _;rw[tX,akR];exact trodAll_mk1 (shut_bool aqo true)
 .show DataW.TrodAll _ _ _ _ _ _ _ _ (s.fn H (ds++[])).args _;rw[tX];exact apZ akP ai We
 .show DataW.TrodVars _ _ _ _ s.vars (s.fn H (ds++[])).vars _;rw[tX,qP];rfl
end
end
def c0{α:Type}(k:aa)(P:ag->aa->aa->α->Prop)(w:ag)(v:ak)(xs:List α):Prop:=
 ∃A cap,v=ae A xs cap/\xs.length<=cap/\xs.length<=8796093022208/\(0<xs.length->∃b off,A=some ⟨b,off,none⟩/\b<w.heap.size/\∀j x,xs[j]?=some x->P w b (off+j*k) x)
def Fy{α:Type}(P:ag->aa->aa->α->Prop):Prop:=∀w w' b o x,Kept w w'->b<w.heap.size->P w b o x->P w' b o x
def c0.kept{α:Type}{k:aa}{P:ag->aa->aa->α->Prop}(eJ:Fy P){w w':ag}{v:ak}{xs:List α}(h:c0 k P w v xs)(ai:Kept w w'):c0 k P w' v xs:=by
 obtain⟨A,cap,aK,aq,av,aj⟩:=h;refine⟨A,cap,aK,aq,av,λhp=> ?_⟩;obtain⟨b,off,a7,af,ef⟩:=aj hp;exact⟨b,off,a7,bG af ai.size,λj x ay=>eJ _ _ _ _ _ ai af (ef j x ay)⟩
def g'(w:ag)(b o:aa)(v:ak):Prop:=aU w (b,o)=some v
def g'.kept{w w':ag}{b o:aa}{v:ak}(h:g' w b o v)(ai:Kept w w')(af:b<w):g' w' b o v:=ai.aI af h
def uv(w:ag)(b o:aa)(s:ez):Prop:=g' w b o (.string s)/\s.size<=140737488355328
def uv.kept{w w':ag}{b o:aa}{s:ez}(h:uv w b o s)(ai:Kept w w')(af:b<w):uv w' b o s:=⟨h.1.kept ai af,h.2⟩
def n1(w:ag)(b o:aa)(n:J):Prop:=g' w b o n/\ -9223372036854775808<=n/\n<=9223372036854775807
def n1.kept{w w':ag}{b o:aa}{n:J}(h:n1 w b o n)(ai:Kept w w')(af:b<w):n1 w' b o n:=⟨h.1.kept ai af,h.2⟩
def tI{α:Type}(R:ag->ak->α->Prop)(w:ag)(b o:aa)(xs:α):Prop:=∃v,g' w b o v/\R w v xs
def tI.kept{α:Type}{R:ag->ak->α->Prop}{xs:α}{w w':ag}{b o:aa}(aJ:∀v,R w v xs->R w' v xs)(h:tI R w b o xs)(ai:Kept w w')(af:b<w):tI R w' b o xs:=by
 obtain⟨v,ab,ad⟩:=h;exact⟨v,ab.kept ai af,aJ v ad⟩
def xe(w:ag)(v:ak)(xs:gh):Prop:=c0 1 uv w v xs
def xe.kept{w w':ag}{v:ak}{xs:gh}(h:xe w v xs)(ai:Kept w w'):xe w' v xs:=c0.kept (P:=uv) (λ_ _ _ _ _ ai af h=>uv.kept h ai af) h ai
def n2(w:ag)(b o:aa)(x:pI):Prop:=uv w b o x.aM/\tI xe w b (o+1) x.mem
def n2.kept:Fy n2:=λ_ _ _ _ _ ai af⟨ab,ad⟩=>⟨ab.kept ai af,ad.kept (λ_ h=>h.kept ai) ai af⟩
def oG(w:ag)(b o:aa)(x:nE):Prop:=n1 w b o x.cZ/\n1 w b (o+1) x.cT/\n1 w b (o+2) x.e2/\n1 w b (o+3) x.aD/\n1 w b (o+4) x.n
def oG.kept:Fy oG:=λ_ _ _ _ _ ai af⟨ar,ab,ad,ao,aR⟩=>⟨ar.kept ai af,ab.kept ai af,ad.kept ai af,ao.kept ai af,aR.kept ai af⟩
def ld(w:ag)(b o:aa)(x:lB):Prop:=uv w b o x.aM/\n1 w b (o+1) x.dL/\n1 w b (o+2) x.eY/\n1 w b (o+3) x.cg/\n1 w b (o+4) x.bK/\tI (c0 5 oG) w b (o+5) x.rows
def ld.kept:Fy ld:=λ_ _ _ _ _ ai af⟨ar,ab,ad,ao,aR,bw⟩=>⟨ar.kept ai af,ab.kept ai af,ad.kept ai af,ao.kept ai af,aR.kept ai af,bw.kept (λ_ h=>h.kept oG.kept ai) ai af⟩
def jt(w:ag)(b o:aa)(x:mI):Prop:=uv w b o x.aM/\n1 w b (o+1) x.k/\n1 w b (o+2) x.e
def jt.kept:Fy jt:=λ_ _ _ _ _ ai af⟨ar,ab,ad⟩=>⟨ar.kept ai af,ab.kept ai af,ad.kept ai af⟩
def iU(w:ag)(v:ak)(xs:List cw):Prop:=DC w v xs/\xs.length<=8796093022208/\∀x∈xs,-9223372036854775808<=x.n/\x.n<=9223372036854775807
def iU.kept{w w':ag}{v:ak}{xs:List cw}(h:iU w v xs)(ai:Kept w w'):iU w' v xs:=⟨h.1.kept ai,h.2⟩
def lz(w:ag)(b o:aa)(x:br):Prop:=uv w b o x.aM/\n1 w b (o+1) x.bx/\n1 w b (o+2) x.bJ/\n1 w b (o+3) x.d_/\n1 w b (o+4) x.cZ/\n1 w b (o+5) x.cT/\
 tI iU w b (o+6) x.g/\tI iU w b (o+7) x.v/\uv w b (o+8) x.src
def lz.kept:Fy lz:=λ_ _ _ _ _ ai af⟨ar,ab,ad,ao,aR,bw,eL,hX,eI⟩=>
 ⟨ar.kept ai af,ab.kept ai af,ad.kept ai af,ao.kept ai af,aR.kept ai af,bw.kept ai af,eL.kept (λ_ h=>h.kept ai) ai af,hX.kept (λ_ h=>h.kept ai) ai af,eI.kept ai af⟩
def yy(w:ag)(b o:aa)(x:cq):Prop:=uv w b o x.aM/\n1 w b (o+1) x.ms/\tI (c0 3 jt) w b (o+2) x.ins/\tI (c0 3 jt) w b (o+3) x.ds/\tI (c0 9 lz) w b (o+4) x.rs
def yy.kept:Fy yy:=λ_ _ _ _ _ ai af⟨ar,ab,ad,ao,aR⟩=>
 ⟨ar.kept ai af,ab.kept ai af,ad.kept (λ_ h=>h.kept jt.kept ai) ai af,ao.kept (λ_ h=>h.kept jt.kept ai) ai af,aR.kept (λ_ h=>h.kept lz.kept ai) ai af⟩
def h1(w:ag)(v:ak)(l:cO):Prop:=∃dw cM cH,v=aF #[dw,cM,cH]/\c0 2 n2 w dw l.bs/\c0 6 ld w cM l.tb/\c0 5 yy w cH l.sc
def h1.kept{w w':ag}{v:ak}{l:cO}(h:h1 w v l)(ai:Kept w w'):h1 w' v l:=by
 obtain⟨dw,cM,cH,aK,ar,ab,ad⟩:=h;exact⟨dw,cM,cH,aK,ar.kept n2.kept ai,ab.kept ld.kept ai,ad.kept yy.kept ai⟩
def e1(s:List Bool)(e:J):Bool:=s[e.toNat]?.getD false
def oZ:aW->List Bool->List J->List Bool×List J
 |[],s,q=>(s,q)
 |e::es,s,q=>if e1 s e then oZ es s q else oZ es (s.set e.toNat true) (q++[e])
def Ag(b':List aW):aa->List Bool->List J->List Bool
 |0,s,_=>s
 |_+1,s,[]=>s
 |F+1,s,d::q=>Ag b' F (oZ (b'[d.toNat]?.getD []) s q).1 (oZ (b'[d.toNat]?.getD []) s q).2
def rk(s:List Bool):aa:=s.countP λb=> !b
def h8(n:aa)(l:aW):Prop:=∀e∈l,0<=e/\e<n
def wD{s:List Bool}{e f:J}(he:0<=e/\e<s.length)(bV:0<=f):e1 (s.set e.toNat true) f=true↔e1 s f=true\/f=e:=by
 unfold e1;rw[x2];by_cases h:e.toNat=f.toNat
 .rw[aP h,aP (by omega)];simp only[b9,true_iff];exact .inr (by omega)
 .rw[aw h];exact⟨.inl,λaT=>aT.resolve_right (by omega)⟩
def Vo{s:List Bool}{e:J}(he:0<=e/\e<s.length)(h:e1 s e=false):rk (s.set e.toNat true)+1=rk s:=by
 have av:e.toNat<s.length:=by omega
 unfold e1 at h;rw[bn av,b9]at h;unfold rk;rw[List.countP_set av,h];simp;have:0<s.countP λb=> !b:=List.countP_pos_iff.2 ⟨s[e.toNat],vH av,by rw[h];rfl⟩;omega
def ad8:∀(es:aW)(s:List Bool)(q:aW),h8 s es->
  (oZ es s q).1.length=s.length/\(∀e,0<=e->(e1 (oZ es s q).1 e=true↔e1 s e=true\/e∈es))/\(∀x,x∈(oZ es s q).2↔x∈q\/(x∈es/\e1 s x=false))/\2*rk (oZ es s q).1+(oZ es s q).2.length<=2*rk s+q.length:=by
 intro es;induction es with
 |nil=>intro s q _;exact⟨rfl,λe _=>by simp[oZ],λx=>by simp[oZ],bB _⟩
 |cons a es bO=>
  intro s q aJ;have bD:=aJ a (o2 ..);have gR:h8 s es:=λe h=>aJ e (qY _ h);rw[oZ]
  cases aO:e1 s a
  .rw[aw (by simp)];obtain⟨ab,ad,ao,aR⟩:=bO (s.set a.toNat true) (q++[a]) (by rw[gJ];exact gR);rw[gJ]at ab;refine⟨ab,λe he=> ?_,λx=> ?_,?_⟩
   .rw[ad e he,wD bD he,fM,or_assoc]
   .rw[ao,k5,kb,fM];constructor
    .rintro ((h|h)|⟨h,ec⟩)
     .exact .inl h
     .rw[h];exact .inr ⟨.inl rfl,aO⟩
     .refine .inr ⟨.inr h,?_⟩
      cases aj:e1 s x
      .rfl
      .rw[(wD bD (gR x h).1).2 (.inl aj)]at ec;cases ec
    .rintro (h|⟨h|h,ec⟩)
     .exact .inl (.inl h)
     .exact .inl (.inr h)
     .by_cases hxa:x=a
      .exact .inl (.inr hxa)
      .refine .inr ⟨h,?_⟩
       cases aj:e1 (s.set a.toNat true) x
       .rfl
       .rcases (wD bD (gR x h).1).1 aj with bw|bw
        .rw[bw]at ec;cases ec
        .exact absurd bw hxa
   .have:=Vo bD aO;rw[fk,sy]at aR;omega
  .rw[aP rfl];obtain⟨ab,ad,ao,aR⟩:=bO s q gR;refine⟨ab,λe he=> ?_,λx=> ?_,aR⟩
   .rw[ad e he,fM];exact⟨λh=>h.imp id .inr,λh=>h.elim .inl λh=>h.elim (λh=> .inl (h▸aO)) .inr⟩
   .rw[ao,fM];exact⟨λh=>h.imp id λ⟨h,ec⟩=>⟨.inr h,ec⟩,λh=>h.imp id λ⟨h,ec⟩=>⟨h.resolve_left (λe=>by rw[e,aO]at ec;cases ec),ec⟩⟩
inductive pc(b':List aW)(d:J):J->Prop
 |one {e:J}:e∈b'[d.toNat]?.getD []->pc b' d e
 |step {e f:J}:pc b' d e->f∈b'[e.toNat]?.getD []->pc b' d f
def pc.CB{b':List aW}{n:aa}{d e:J}(a7:∀d:J,h8 n (b'[d.toNat]?.getD []))(h:pc b' d e):0<=e/\e<n:=by
 cases h with
 |one h=>exact a7 _ _ h
 |step _ h=>exact a7 _ _ h
def aht{b':List aW}{n:aa}{d0:J}(a7:∀d:J,h8 n (b'[d.toNat]?.getD [])):∀(F:aa)(s:List Bool)(q:aW),s.length=n->2*rk s+q.length<F->
  (∀e,0<=e->e1 s e=true->pc b' d0 e)->(∀d∈q,d=d0\/(0<=d/\e1 s d=true))->(∀d,(d=d0\/(0<=d/\e1 s d=true))->d∈q\/∀e∈b'[d.toNat]?.getD [],e1 s e=true)->
  ∀e,0<=e->(e1 (Ag b' F s q) e=true↔pc b' d0 e):=by
 intro F;induction F with
 |zero=>intro s q _ h;omega
 |succ F bO=>
  intro s q aH hF bD af aq;match q with
  |[]=>
   intro e he;rw[Ag];refine⟨bD e he,λh=> ?_⟩;have oO:∀d,(d=d0\/(0<=d/\e1 s d=true))->∀e∈b'[d.toNat]?.getD [],e1 s e=true:=λd aE=>(aq d aE).resolve_left (by simp);have:0<=e/\e1 s e=true:=by
    induction h with
    |one h=>exact⟨(a7 _ _ h).1,oO d0 (.inl rfl) _ h⟩
    |step ab ad ao=>exact⟨(a7 _ _ ad).1,oO _ (.inr (ao (ab.CB a7).1)) _ ad⟩
   exact this.2
  |d::q=>
   rw[Ag];obtain⟨ab,ad,ao,aR⟩:=ad8 (b'[d.toNat]?.getD []) s q (by rw[aH];exact a7 d);refine bO _ _ (ab.trans aH) (by rw[hi]at hF;omega) ?_ ?_ ?_
   .intro e he aO;rcases (ad e he).1 aO with h|h
    .exact bD e he h
    .rcases af d (o2 ..)with rfl|⟨kF,aE⟩
     .exact .one h
     .exact .step (bD d kF aE) h
   .intro x aj;rcases (ao x).1 aj with h|⟨h,-⟩
    .rcases af x (qY _ h)with h|⟨ar,h⟩
     .exact .inl h
     .exact .inr ⟨ar,(ad x ar).2 (.inl h)⟩
    .have ar:=(a7 _ _ h).1;exact .inr ⟨ar,(ad x ar).2 (.inr h)⟩
   .intro x aj;have hold:(x=d0\/(0<=x/\e1 s x=true))->x∈(oZ (b'[d.toNat]?.getD []) s q).2\/∀e∈b'[x.toNat]?.getD [],e1 (oZ (b'[d.toNat]?.getD []) s q).1 e=true:=by
     intro aj;rcases aq x aj with h|h
     .rcases fM.1 h with rfl|h
      .exact .inr λe he=>(ad e (a7 _ _ he).1).2 (.inr he)
      .exact .inl ((ao x).2 (.inl h))
     .exact .inr λe he=>(ad e (a7 _ _ he).1).2 (.inl (h e he))
    rcases aj with h|⟨ar,h⟩
    .exact hold (.inl h)
    .rcases (ad x ar).1 h with h|h
     .exact hold (.inr ⟨ar,h⟩)
     .cases aO:e1 s x
      .exact .inl ((ao x).2 (.inr ⟨h,aO⟩))
      .exact hold (.inr ⟨ar,aO⟩)
def vm(b':List aW)(n:aa)(d0:J):aW:=((List.range n).filter λi:aa=>e1 (Ag b' (2*n+2) (List.replicate n false) [d0]) (i:J)).map λi:aa=>(i:J)
def G7(n:aa)(e:J):e1 (List.replicate n false) e=false:=by
 unfold e1;rw[uj];split<;>rfl
def amH{b':List aW}{n:aa}{d0:J}(a7:∀d:J,h8 n (b'[d.toNat]?.getD []))(e:J):e∈vm b' n d0↔pc b' d0 e:=by
 have h:=aht (d0:=d0) a7 (2*n+2) (List.replicate n false) [d0] (iQ ..) (by unfold rk;rw[List.countP_replicate];simp) (λe _ h=>by rw[G7]at h;cases h)
  (λd aE=> .inl (kb.1 aE)) (λd aE=>aE.elim (λh=> .inl (by rw[h];simp)) λ⟨_,h⟩=>by rw[G7]at h;cases h)
 unfold vm;simp only[o3,uq,me];constructor
 .rintro⟨i,⟨_,aO⟩,rfl⟩;exact (h _ (by omega)).1 aO
 .intro aC;have ar:0<=e/\e<n:=aC.CB a7;refine⟨e.toNat,⟨by omega,?_⟩,by omega⟩;rw[show ((e.toNat:aa):J)=e by omega];exact (h e ar.1).2 aC
def C5(m:J):Bool:=decide (0<=m)&&decide (m<=5)
def so(m:J)(w:ag):bg 216 #[m] w λe w'=>e=bL (bR (C5 m))/\w=w':=by
 go_enter func216,ntmps216
 go_wp2_with fail
 all_goals
  go_ret;exact⟨fG (by simp[C5, *]<;>omega),rfl⟩
def AW(m:J)(w:ag):bg 224 #[m] w λe w'=>e=bL (bR (C5 m))/\w=w':=by
 go_enter func224,ntmps224
 go_wp2_with fail
 all_goals
  go_ret;exact⟨fG (by simp[C5, *]<;>omega),rfl⟩
def mq(n l:J):Bool:=decide (l<n)||decide (n< -l)
def zh(n l:J)(w:ag)(av:0<=l/\l<=9223372036854775807):bg 217 #[n,l] w λe w'=>e=bL (bR (mq n l))/\w=w':=by
 obtain⟨ab,ad⟩:=av;go_enter func217,ntmps217
 go_wp2_with fail
 all_goals
  go_ret;exact⟨fG (by simp[mq, *]),rfl⟩
def G2(n l:J)(w:ag)(av:0<=l/\l<=9223372036854775807):bg 225 #[n,l] w λe w'=>e=bL (bR (mq n l))/\w=w':=by
 obtain⟨ab,ad⟩:=av;go_enter func225,ntmps225
 go_wp2_with fail
 all_goals
  go_ret;exact⟨fG (by simp[mq, *]),rfl⟩
def NI(n:J)(w:ag)(h: -9223372036854775808<=n/\n<=9223372036854775807):bg 218 #[n] w λe w'=>e=bL (.int .u64 (n.natAbs:aa))/\w=w':=by
 obtain⟨ab,ad⟩:=h;by_cases aH:n<0
 .go_enter func218,ntmps218
  go_wp2_with fail
  go_ret;exact⟨xP (by simp[IntKind.wrap,IntKind.bits,IntKind.signed];omega),rfl⟩
 .go_enter func218,ntmps218
  go_wp2_with fail
  go_ret;exact⟨xP (by omega),rfl⟩
def J3(q r e:aa)(neg:Bool)(m:J):Bool:=
 if m=0 then neg else if m=1 then !neg else if m=3 then true else if m=4 then decide (e<=r)
 else if m=5 then decide (e<r)||(decide (r=e)&&decide (q% 2=1))else false
def EJ(q r e:aa)(neg:Bool)(m:J):aa:=if r=0 then q else if J3 q r e neg m then q+1 else q
def adr(m:J):m=0\/m=1\/m=3\/m=4\/m=5\/(¬m=0/\¬m=1/\¬m=3/\¬m=4/\¬m=5):=by omega
def aen(q r d e:aa)(neg:Bool)(m:J)(w:ag)(aO:IntKind.u64.wrap ((d:J)-r)=e)(az:q+1<18446744073709551616):
  bg 219 #[.int .u64 q,.int .u64 r,.int .u64 d,bR neg,m] w λx w'=>x=bL (.int .u64 (EJ q r e neg m))/\w=w':=by
 rcases adr m with rfl|rfl|rfl|rfl|rfl|⟨m1,m2,m3,m4,m5⟩
 all_goals
  cases neg
  all_goals
   go_enter func219,ntmps219
   go_wp2_with fail
   all_goals
    go_ret;exact⟨xP (by simp[EJ,J3, *]<;>(repeat' split)<;>first|omega|(simp at*;omega)),rfl⟩
def aoq(q r d e:aa)(neg:Bool)(m:J)(w:ag)(aO:IntKind.u64.wrap ((d:J)-r)=e)(az:q<18446744073709551616):
  bg 226 #[.int .u64 q,.int .u64 r,.int .u64 d,bR neg,m] w λx w'=>x=bL (bR (decide (r≠0)&&J3 q r e neg m))/\w=w':=by
 rcases adr m with rfl|rfl|rfl|rfl|rfl|⟨m1,m2,m3,m4,m5⟩
 all_goals
  cases neg
  all_goals
   go_enter func226,ntmps226
   go_wp2_with fail
   all_goals
    go_ret;exact⟨fG (by rw[nZ];(try simp[J3, *]);(try simp at*);(try omega)),rfl⟩
def aeG(q:aa)(neg:Bool)(w:ag)(az:q<=9223372036854775807):bg 220 #[.int .u64 q,bR neg] w λe w'=>e=bL (ah (if neg then -(q:J)else q))/\w=w':=by
 cases neg
 all_goals
  go_enter func220,ntmps220
  go_wp2_with fail
  go_ret;exact⟨xP (by simp),rfl⟩
def wrapN{n:aa}(h:n<18446744073709551616):IntKind.u64.wrap (n:J)=n:=by simp[IntKind.wrap,IntKind.bits,IntKind.signed];omega
def sD(f:FuncId)(args:ho)(v:ak):Prop:=∀w,bg f args w λe w'=>e=bL v/\Kept w w'
def iT(n:J):Prop:= -9223372036854775808<=n/\n<=9223372036854775807
def FV{n l:J}(h:mq n l=false): -l<=n/\n<=l:=by
 simp[mq]at h;omega
def Y4{q r e:aa}{neg:Bool}{m:J}:EJ q r e neg m<=q+1:=by
 unfold EJ;split
 .omega
 .split<;>omega
def Qf(n d m:J)(aH:iT n)(aE:iT d):∃q c:J,iT q/\sD 199 #[n,d,m] (bj #[q,c]):=by
 by_cases aK:C5 m=true
 case neg=>
  refine⟨0,1,⟨by decide,by decide⟩,λw=> ?_⟩;go_enter func199,ntmps199
  go_wp2_with (go_at_call 216;refine (so _ _).mono ?_;rintro e w'⟨rfl,rfl⟩)
  go_ret2
  exact⟨rfl,aG _⟩
 by_cases ar:d=0
 .subst ar;refine⟨0,12,⟨by decide,by decide⟩,λw=> ?_⟩;go_enter func199,ntmps199
  go_wp2_with (go_at_call 216;refine (so _ _).mono ?_;rintro e w'⟨rfl,rfl⟩)
  go_ret2
  exact⟨rfl,aG _⟩
 have kF:(d==0)=false:=by simpa using ar
 cases c9:mq n 4611686018427387904
 case true=>
  refine⟨0,3,⟨by decide,by decide⟩,λw=> ?_⟩;go_enter func199,ntmps199
  go_wp2_with (first|(go_at_call 216;refine (so _ _).mono ?_;rintro e w'⟨rfl,rfl⟩)|(go_at_call 217;refine (zh _ _ _ (by decide)).mono ?_;rintro e w'⟨rfl,rfl⟩))
  go_ret2
  exact⟨rfl,aG _⟩
 cases bW:mq d 4611686018427387904
 case true=>
  refine⟨0,3,⟨by decide,by decide⟩,λw=> ?_⟩;go_enter func199,ntmps199
  go_wp2_with (first|(go_at_call 216;refine (so _ _).mono ?_;rintro e w'⟨rfl,rfl⟩)|(go_at_call 217;refine (zh _ _ _ (by decide)).mono ?_;rintro e w'⟨rfl,rfl⟩))
  go_ret2
  exact⟨rfl,aG _⟩
 have au:=FV c9;have bt:=FV bW;obtain⟨U,ji⟩:∃U,U=n.natAbs:=⟨_,rfl⟩;obtain⟨V,c6⟩:∃V,V=d.natAbs:=⟨_,rfl⟩;have po:=λw=>NI n w aH;have lG:=λw=>NI d w aE;rw[<-ji]at po;rw[<-c6]at lG;have hVp:0<V:=by omega
 have u1:U<=4611686018427387904:=by omega
 have u2:V<=4611686018427387904:=by omega
 clear ji c6;have az:U/V<=U:=OC _ _;have aC:U% V<V:=Nat.mod_lt _ hVp;have aQ:IntKind.u64.wrap ((U:J)/V)=((U/V:aa):J):=wrapN (by omega);have a_:((U:J)% V)=((U% V:aa):J):=rfl;have hV0:((V:J)==0)=false:=by simp;omega
 have cv:IntKind.u64.wrap ((V:J)-(U% V:aa))=((V-U% V:aa):J):=by rw[show ((V:J)-(U% V:aa))=((V-U% V:aa):J) by omega];exact wrapN (by omega)
 generalize U/V=Q at*;generalize U% V=R at*
 cases Az:(decide (n<0)==decide (d<0))
 case' true=>have aJ:= @Y4 Q R (V-R) false m
 case' false=>have aJ:= @Y4 Q R (V-R) true m
 case' true=>refine⟨EJ Q R (V-R) false m,0,⟨by omega,by omega⟩,λw=> ?_⟩
 case' false=>refine⟨-EJ Q R (V-R) true m,0,⟨by omega,by omega⟩,λw=> ?_⟩
 all_goals
  have wV:=I po;have jS:=I lG;clear po lG;go_enter func199,ntmps199
  go_wp2_with (first|(go_at_call 216;refine (so _ _).mono ?_;rintro e w'⟨rfl,rfl⟩)|(go_at_call 217;refine (zh _ _ _ (by decide)).mono ?_;rintro e w'⟨rfl,rfl⟩)|(go_at_call_of 218 (Value.int IntKind.i64 n);refine (wV _).mono ?_;rintro e w'⟨rfl,rfl⟩)|(go_at_call_of 218 (Value.int IntKind.i64 d);refine (jS _).mono ?_;rintro e w'⟨rfl,rfl⟩))
  refine nc (by kernel_rfl) (by kernel_rfl) ?_
  repeat (go_big_quiet_step (exact aS.pure (aen _ _ _ _ _ _ _ cv (by omega))))
  refine f' ?_;rintro _⟨⟨cj,eX⟩,rfl⟩;go_wp2_with (go_at_call 220;refine (aeG _ _ _ (by omega)).mono ?_;rintro e w'⟨rfl,rfl⟩)
  go_ret2
  exact⟨rfl,eX⟩
def Mon(w:ag):Prop:=∀i,i<12->aU w ⟨3,i,none⟩=some (ah (Ev[i]?.getD 0))
def Mon.lt{w:ag}(h:Mon w):3<w.heap.size:=by
 have ar:=h 0 (by omega);rcases rT 3 w with av|al
 .exact av
 .simp[World.cell?,afC al]at ar
def Mon.kept{w w':ag}(h:Mon w)(ai:Kept w w'):Mon w':=λi aD=>ai.aI h.lt (h i aD)
def Mon.drew{w:ag}(h:Mon w):Mon w.drew:=h
def Mon.drewN{w:ag}(h:Mon w)(k:aa):Mon (w.drewN k):=h
def amj(y:J)(w:ag):
  bg 222 #[y] w λe w'=>e=bL (bR (Em y))/\w=w':=by
 go_enter func222,ntmps222
 go_wp2
 all_goals (go_ret;exact⟨fG (by simp_all [Em]),rfl⟩)
def IH(y m:J)(w:ag)(bN:Mon w):
  bg 202 #[y,m] w λe w'=>e=bL (ah (l1 y m))/\w=w':=by
 by_cases hm:m<1
 .go_enter func202,ntmps202
  go_wp2_with fail
  go_ret;exact⟨xP (by rw[VE (.inl hm)]),rfl⟩
 .by_cases lG:12<m
  .go_enter func202,ntmps202
   go_wp2_with fail
   go_ret;exact⟨xP (by rw[VE (.inr lG)]),rfl⟩
  .have ab:1<=m:=by omega
   have ad:m<=12:=by omega
   have aq:aU w (3,m.toNat-1)=some (ah (Ev[(m-1).toNat]?.getD 0)):=by
    have:=bN (m.toNat-1) (by omega);rwa [show (m-1).toNat=m.toNat-1 from by omega]
   have dE:=bN 1 (by omega);clear bN hm lG
   cases ao:(m==2)
   .have aR:m≠2:=by simpa using ao
    have aX:=I (VD (y:=y) ab ad aR);clear aR dE;go_enter func202,ntmps202
    go_wp2_with fail
    go_ret;exact⟨xP (by rw[aX,show (m-1).toNat=m.toNat-1 from by omega]),rfl⟩
   .obtain rfl:m=2:=by simpa using ao
    clear aq;have aX:=I (VC y)
    cases av:Em y
    all_goals
     have dB:=I (show ve y=_ by unfold ve;rw[av]);go_enter func202,ntmps202
     go_wp2_with (go_at_call 222;refine (amj _ _).mono ?_;rintro e w'⟨rfl,rfl⟩)
     go_ret;exact⟨xP (by rw[aX,dB];rfl),rfl⟩
def ami(y:J)(w:ag)(ar:0<=y)(ab:y<=10000):
  bg 221 #[y] w λe w'=>e=bL (ah (GN y))/\w=w':=by
 go_enter func221,ntmps221
 go_wp2
 go_ret;exact⟨rfl,rfl⟩
def ac9(y:J)(ar:0<=y)(ab:y<=10000):0<=GN y/\GN y<=3000:=by unfold GN;omega
def ZL(y:J)(w:ag)(ar:1900<=y)(ab:y<=2300):
  bg 201 #[y] w λe w'=>e=bL (ah (iZ y))/\w=w':=by
 have c9:=ac9 (y-1) (by omega) (by omega);have bW:=ac9 1899 (by omega) (by omega);go_enter func201,ntmps201
 go_wp2_with (go_at_call 221;refine (ami _ _ (by omega) (by omega)).mono ?_;rintro e w'⟨rfl,rfl⟩)
 go_ret;exact⟨rfl,rfl⟩
def aqV{y m d:J}(h:sw y m d=false):y<1900\/(1900<=y/\2199<y)\/(1900<=y/\y<=2199/\m<1)\/(1900<=y/\y<=2199/\1<=m/\12<m)\/
  (1900<=y/\y<=2199/\1<=m/\m<=12/\d<1)\/(1900<=y/\y<=2199/\1<=m/\m<=12/\1<=d/\l1 y m<d):=by
 have ec:¬(1900<=y/\y<=2199/\1<=m/\m<=12/\1<=d/\d<=l1 y m):=by rw[<-A6,h];simp
 omega
def QC{r:J×J}{a b:J}(h:r=(a,b)):Ending.returned (bj #[a,b])=bL (bj #[r.1,r.2]):=by rw[h]
def ajw{y m d:J}{k:aa}(h:sw y m d=true)(ai:(k:J)=m-1):Am y m d=(iZ y+iy y k+d-1,0):=by
 unfold Am qA;rw[aP h,show (m-1).toNat=k from by omega]
def ajv(y m d:J)(w:ag)(bN:Mon w):
  bg 208 #[y,m,d] w λe w'=>e=bL (bj #[ah (Am y m d).1,ah (Am y m d).2])/\w=w':=by
 cases aK:sw y m d
 .have aX:=I (show Am y m d=(0,3) by unfold Am;rw[aK];rfl);have ec:=aqV aK;clear aK;rcases ec with ab|⟨ab,ad⟩|⟨ab,ad,ao⟩|⟨ab,ad,ao,aR⟩|⟨ab,ad,ao,aR,bw⟩|⟨ab,ad,ao,aR,bw,eL⟩
  all_goals
   go_enter func208,ntmps208
   go_wp2_with (go_at_call 202;refine (IH _ _ _ bN).mono ?_;rintro e w'⟨rfl,rfl⟩)
   go_ret2
   exact⟨QC aX,rfl⟩
 .have fE:=I aK;obtain⟨ab,ad,ao,aR,bw,eL⟩:=A6.1 aK;have af:=Td y ab (by omega);have aE:=LU y m;clear aK;go_enter func208,ntmps208
  go_wp2_with (first|(go_at_call 202;refine (IH _ _ _ bN).mono ?_;rintro e w'⟨rfl,rfl⟩)|(go_at_call 201;refine (ZL _ _ ab (by omega)).mono ?_;rintro e w'⟨rfl,rfl⟩))
  go_loop [8,9,39] (λx z k=>∃j:aa,(j:J)<=m-1/\k=ah j/\x=ah (iZ y+iy y j)) (λ_ _ k=>(m-1-intOf k).toNat)
  case atStart=>exact⟨0,by omega,rfl,by simp[iy]⟩
  case round=>
   obtain⟨j,ay,rfl,rfl⟩:=hrel;have aq:=Vw y j (by omega);have mx:=LU y (j+1);by_cases aN:(j:J)<m-1
   .go_wp2_with (go_at_call 202;refine (IH _ _ _ bN).mono ?_;rintro e w'⟨rfl,rfl⟩)
    go_round
    case rel=>exact⟨j+1,by omega,by go_num,by rw[iy];congr 1;omega⟩
    case measure=>simp only[intOf];omega
   .have pn:(j:J)=m-1:=by omega
    have at5:=I pn;clear pn;go_wp2_with fail
    go_ret2
    exact⟨QC (ajw fE at5),rfl⟩
def F0(d:J)(w:ag):
  bg 200 #[d] w λe w'=>e=bL (bR (kv d))/\w=w':=by
 go_enter func200,ntmps200
 go_wp2
 all_goals (go_ret;exact⟨fG (by simp[kv];try omega),rfl⟩)
def aeh{r:J×J×J}{a b c:J}(h:r=(a,b,c)):Ending.returned (bj #[a,b,c])=bL (bj #[r.1,r.2.1,r.2.2]):=by rw[h]
def apJ{n y:J}{j:aa}(ab:1900<=y)(ad:y<=2199)(ay:j<12)(ar:0<=n-iZ y-iy y j)(ao:n-iZ y-iy y j<l1 y (j+1)):eN n=(y,(j:J)+1,n-iZ y-iy y j+1):=by
 refine ae9 (A6.2 ⟨ab,ad,by omega,by omega,by omega,by omega⟩) ?_;unfold qA;rw[show ((j:J)+1-1).toNat=j from by omega];omega
def SZ(n:J)(w:ag)(bN:Mon w):
  bg 185 #[n] w λe w'=>e=bL (bj #[ah (eN n).1,ah (eN n).2.1,ah (eN n).2.2])/\w=w':=by
 cases aE:kv n
 .have aX:=I (apK (alI.1 aE));go_enter func185,ntmps185
  go_wp2_with (go_at_call 200;refine (F0 _ _).mono ?_;rintro e w'⟨rfl,rfl⟩)
  go_ret3
  exact⟨aeh aX,rfl⟩
 .have Q8:=R0.1 aE;have kI:=Q8.1;have e9:=Q8.2;clear Q8;go_enter func185,ntmps185
  go_wp2_with (go_at_call 200;refine (F0 _ _).mono ?_;rintro e w'⟨rfl,rfl⟩)
  have dH:=Td (1900+n/366) (by omega) (by omega);go_loop [5] (λx=>∃y:J,x=ah y/\1900<=y/\y<=2199/\iZ y<=n) (λx=>(2200-intOf x).toNat)
  case atStart=>exact⟨_,rfl,by omega,by omega,by omega⟩
  case round=>
   obtain⟨y,rfl,ab,ad,ao⟩:=hrel;clear dH;by_cases aN:iZ (y+1)<=n
   .have bU:y≠2199:=by
     rintro rfl;have:iZ (2199+1)=109573:=ZK;omega
    have bZ:y+1<=2199:=by omega
    clear bU;go_wp2_with (go_at_call 201;refine (ZL _ _ (by omega) (by omega)).mono ?_;rintro e w'⟨rfl,rfl⟩)
    go_round
    case rel=>exact⟨y+1,rfl,by omega,bZ,aN⟩
    case measure=>simp only[intOf];omega
   .have y9:=J7 y (by omega);have acf:=Vv y;have xr:=Td y ab (by omega);have HN:=I y9;have afY:=I acf;have ase:n<iZ (y+1):=by omega
    clear y9 acf aN;go_wp2_with (go_at_call 201;refine (ZL _ _ (by omega) (by omega)).mono ?_;rintro e w'⟨rfl,rfl⟩)
    go_loop [6,7,8,26] (λr z l k=>∃j:aa,j<=12/\k=ah j/\r=ah (n-iZ y-iy y j)/\0<=n-iZ y-iy y j) (λ_ _ _ k=>(12-intOf k).toNat)
    case atStart=>exact⟨0,by omega,rfl,by simp[iy],by simp[iy];omega⟩
    case round=>
     obtain⟨j,ay,rfl,rfl,aC⟩:=hrel;have jv:=Vw y j ay;by_cases aka:j<12
     .have y3:=LU y (j+1);by_cases Ef:n-iZ y-iy y j<l1 y (j+1)
      .have aX:=I (apJ ab ad aka aC Ef);go_wp2_with (go_at_call 202;refine (IH _ _ _ bN).mono ?_;rintro e w'⟨rfl,rfl⟩)
       go_ret3
       exact⟨aeh aX,rfl⟩
      .go_wp2_with (go_at_call 202;refine (IH _ _ _ bN).mono ?_;rintro e w'⟨rfl,rfl⟩)
       go_round
       case rel=>exact⟨j+1,by omega,by go_num,by rw[iy];congr 1;omega,by rw[iy];omega⟩
       case measure=>simp only[intOf];omega
     .exfalso;obtain rfl:j=12:=by omega
      have:=HN.out;have:=afY.out;omega
def agH{a n:J}(h:BF a n=false):kv a=false\/(kv a=true/\n< -3600)\/(kv a=true/\ -3600<=n/\3600<n)\/
  (kv a=true/\ -3600<=n/\n<=3600/\ln a n<0)\/(kv a=true/\ -3600<=n/\n<=3600/\0<=ln a n/\3599<ln a n):=by
 cases aE:kv a
 .exact .inl rfl
 .have ec:¬(kv a=true/\ -3600<=n/\n<=3600/\0<=ln a n/\ln a n<=3599):=by rw[<-PN,h];simp
  simp only[aE,tu]at ec;simp only[tu];simp only[show (true=false)=False from by simp];omega
def aaF(a n:J)(w:ag)(bN:Mon w):
  bg 187 #[a,n] w λe w'=>e=bL (bj #[ah (pR a n).1,ah (pR a n).2])/\w=w':=by
 cases h':BF a n
 .have aX:=I (agF h');have ec:=agH h';clear h';rcases ec with ab|⟨ab,ad⟩|⟨ab,ad,ao⟩|⟨ab,ad,ao,aR⟩|⟨ab,ad,ao,aR,bw⟩
  case inl|inr.inl|inr.inr.inl=>
   go_enter func187,ntmps187
   go_wp2_with (go_at_call 200;refine (F0 _ _).mono ?_;rintro e w'⟨rfl,rfl⟩)
   go_ret2
   exact⟨QC aX,rfl⟩
  all_goals
   have af:=ET ab;unfold ln at aR
   try unfold ln at bw
   generalize cr:eN a=t at*;obtain⟨ty,atX,Og⟩:=t;dsimp only at*;go_enter func187,ntmps187
   go_wp2_with (first|(go_at_call 200;refine (F0 _ _).mono ?_;rintro e w'⟨rfl,rfl⟩)|(go_at_call 185;refine (SZ _ _ bN).mono ?_;rintro e w'⟨rfl,rfl⟩;rw[cr];dsimp only))
   go_ret2
   exact⟨QC aX,rfl⟩
 .obtain⟨ab,ad,ao,aR,bw⟩:=PN.1 h';have aX:=I (U3 h');have af:=ET ab;clear h';have dY:=I (show Lv a n=Am (1900+ln a n/12) (ln a n% 12+1) (min (eN a).2.2 (l1 (1900+ln a n/12) (ln a n% 12+1)))from rfl);have jW:∃k,ln a n=k/\((eN a).1-1900)*12+(eN a).2.1-1+n=k:=⟨_,rfl,rfl⟩;obtain⟨k,ai,jm⟩:=jW;rw[ai]at aR bw dY;generalize cr:eN a=t at*;obtain⟨ty,atX,Og⟩:=t;dsimp only at*;go_enter func187,ntmps187
  have y3:=VB (1900+k/12) (k% 12+1) (by omega) (by omega);go_wp2_with (first|(go_at_call 200;refine (F0 _ _).mono ?_;rintro e w'⟨rfl,rfl⟩)|(go_at_call 185;refine (SZ _ _ bN).mono ?_;rintro e w'⟨rfl,rfl⟩;rw[cr];dsimp only)|(go_at_call 202;refine (IH _ _ _ bN).mono ?_;rintro e w'⟨rfl,rfl⟩)|(go_at_call 208;refine (ajv _ _ _ _ bN).mono ?_;rintro e w'⟨rfl,rfl⟩))
  all_goals
   go_ret2
   refine⟨?_,rfl⟩;rw[aX,dY]
   first
    |rw[show min Og (l1 (1900+k/12) (k% 12+1))=Og from by omega];rfl
    |rw[show min Og (l1 (1900+k/12) (k% 12+1))=l1 (1900+k/12) (k% 12+1)from by omega];rfl
def aqQ{a b:J}(h:EY a b=false):kv a=false\/(kv a=true/\kv b=false)\/(kv a=true/\kv b=true/\b<a):=by
 unfold EY at h
 cases bD:kv a
 .exact .inl rfl
 .cases af:kv b
  .exact .inr (.inl ⟨rfl,rfl⟩)
  .refine .inr (.inr ⟨rfl,rfl,?_⟩);rw[bD,af]at h;simpa using h
def aqU(a b:J)(w:ag)(bN:Mon w):
  bg 188 #[a,b] w λe w'=>e=bL (ah (C' a b))/\w=w':=by
 cases dG:EY a b
 .have aX:=I (aqR dG);have ec:=aqQ dG;clear dG;rcases ec with ab|⟨ab,ad⟩|⟨ab,ad,ao⟩
  all_goals
   go_enter func188,ntmps188
   go_wp2_with (go_at_call 200;refine (F0 _ _).mono ?_;rintro e w'⟨rfl,rfl⟩)
   go_ret;exact⟨xP aX.symm,rfl⟩
 .obtain⟨ab,ad,ao⟩:=afy.1 dG;have af:=ET ab;have D5:=ET ad;have bZ:=afA ab ad ao;have ajX:=(ag6 (j:=(eN b).1-(eN a).1) ab (by omega) (by omega)).1;have WO:=aqS dG;clear dG;generalize cr:eN a=t at*;obtain⟨ty,atX,Og⟩:=t;generalize sj:eN b=auT at*;obtain⟨ty',tm',td'⟩:=auT;dsimp only at*;generalize aC:pR a (12*(ty'- ty))=r at*;obtain⟨r,c⟩:=r;dsimp only at*;subst ajX;rcases WO with⟨aQ,a_⟩|⟨aQ,a_,cv⟩
  all_goals
   have cW:=I aQ;clear aQ;go_enter func188,ntmps188
   go_wp2_with (first|(go_at_call 200;refine (F0 _ _).mono ?_;rintro e w'⟨rfl,rfl⟩)|(go_at_call 185;refine (SZ _ _ bN).mono ?_;rintro e w'⟨rfl,rfl⟩;first|rw[cr]|rw[sj];dsimp only)|(go_at_call 187;refine (aaF _ _ _ bN).mono ?_;rintro e w'⟨rfl,rfl⟩;rw[aC];dsimp only))
   all_goals (go_ret;exact⟨xP (by rw[cW];try omega),rfl⟩)
def DE.at_{w:ag}{v:ak}{c2:List sP}(h:DE w v c2):∃A cap,v=ae A c2 cap/\c2.length<=9223372036854775807/\(0<c2.length->∃b off,A=some ⟨b,off,none⟩/\b<w.heap.size/\
  ∀j s,c2[j]?=some s->aU w ⟨b,off+j*5+1,none⟩=some (ah s.m)/\∃vI ci,aU w ⟨b,off+j*5+2,none⟩=some (ae vI s.ins.length ci)/\wR w (ae vI s.ins.length ci) s.ins):=by
 obtain⟨A,cap,aK,av,aj⟩:=h;refine⟨A,cap,aK,av,λhp=> ?_⟩;obtain⟨b,off,a7,af,aq⟩:=aj hp;refine⟨b,off,a7,af,λj s ay=> ?_⟩;obtain⟨_,ab,b7,ad,ao⟩:=aq j s ay;obtain⟨vI,ci,rfl,_⟩:=id ao;exact⟨ab,vI,ci,ad,ao⟩
def Yt(c2:List sP)(sc:aa)(w:ag)(e:Ending)(w':ag):Prop:=
 ∃b7,e=bL (bj #[b7,ah (rG c2 (c2[sc]?.getD ⟨0,[]⟩)).2])/\wR w' b7 (rG c2 (c2[sc]?.getD ⟨0,[]⟩)).1/\Kept w w'
def amI(dw cH:ak)(At:gu)(jZ fS:aa)(c2:List sP)(sc:aa)(w:ag)(c5:gu)(ne ce:aa)(MS:dw=ae c5 ne ce)(bH:DE w cH c2)(nL:sc<c2.length):
  bg 54 #[aF #[dw,ae At jZ fS,cH],sc] w (Yt c2 sc w):=by
 unfold Yt;subst MS;have eb:=I bH;obtain⟨hM,cs,rfl,nM,aj⟩:=bH.at_;obtain⟨b,off,rfl,af,aq⟩:=aj (by omega);have al:c2[sc]?=some (c2[sc]'nL):=bn nL;rw[al,b9];obtain⟨bQ,vI,ci,cx,hF⟩:=aq sc _ al;have ax:=(aG w).alloc (.cells #[ae c5 ne ce,ae At jZ fS,ae (some (b,off)) c2 cs] 26);have kk:=ax.aI af bQ;have GC:(sc:J)<c2.length:=by omega
 generalize XF:c2[sc]=s at*;have gj:=I ax;by_cases hm:s.m<0\/(c2:J)<=s.m
 .have aX:=I (show rG c2 s=([],0) by rw[rG,aP hm]);rw[aX];rcases (show s.m<0\/(¬s.m<0/\(c2:J)<=s.m) by omega)with h|⟨h,ad⟩
  .clear hm aq aj hF cx ax eb;go_enter func54,ntmps54
   go_wp2_with fail
   go_ret2
   exact⟨_,rfl,wR.nil _,gj⟩
  .clear hm aq aj hF cx ax eb;go_enter func54,ntmps54
   go_wp2_with fail
   go_ret2
   exact⟨_,rfl,wR.nil _,gj⟩
 .obtain⟨q,az⟩:∃q:aa,s.m=q:=⟨s.m.toNat,by omega⟩;have GA:q<c2.length:=by omega
  have kS:c2[q]?=some (c2[q]'GA):=bn GA;have aX:=I (show rG c2 s=((c2[q]'GA).ins,8) by rw[rG,aw hm,az,c7,kS];rfl);obtain⟨_,atZ,Ah,eV,aL⟩:=aq q _ kS;have Ls:=ax.aI af eV;have eQ:=I (aL.kept ax);rw[aX];generalize c2[q]=s2 at*;rw[az]at kk;have wg:(q:J)<c2.length:=by omega
  have asy:¬((c2:J)<=q):=by omega
  clear hm aq aj hF bQ cx eV ax eb aL az al kS XF bH aX;go_enter func54,ntmps54
  go_wp2_with fail
  go_ret2
  exact⟨_,rfl,eQ,gj⟩
def kh.at_{w:ag}{v:ak}{mem:List (List bC)}(h:kh w v mem):∃A cap,v=ae A mem cap/\mem.length<=9223372036854775807/\(0<mem.length->∃b off,A=some ⟨b,off,none⟩/\b<w.heap.size/\
  ∀j l,mem[j]?=some l->l.length<=9223372036854775807/\∃vI ci,aU w ⟨b,off+j,none⟩=some (ae vI l.length ci)/\ft w (ae vI l.length ci) l):=by
 obtain⟨A,cap,aK,av,aj⟩:=h;refine⟨A,cap,aK,av,λhp=> ?_⟩;obtain⟨b,off,a7,af,aq⟩:=aj hp;refine⟨b,off,a7,af,λj l ay=> ?_⟩;obtain⟨ar,cm,ab,ad⟩:=aq j l ay;obtain⟨vI,ci,rfl,_⟩:=id ad;exact⟨ar,vI,ci,ab,ad⟩
def ah3{ms:List gh}{bA:List dh}{mem:List (List bC)}{i:aa}{l:List bC}(h:mem[i]?=some l):
  yP ms bA i (mem.drop i)=if (lZ ms bA l).2=0 then yP ms bA (i+1) (mem.drop (i+1))else (i,(lZ ms bA l).1,(lZ ms bA l).2):=by
 obtain⟨aD,rfl⟩:=b2 h;rw[jA aD,yP]
def ah4{ms:List gh}{bA:List dh}{mem:List (List bC)}{i:aa}(h:¬i<mem.length):yP ms bA i (mem.drop i)=(0,0,0):=by
 rw[zF.2 (by omega)];rfl
def ZC(R:J×J×J)(w:ag)(e:Ending)(w':ag):Prop:=e=bL (bj #[R.1,R.2.1,R.2.2])/\Kept w w'
def aqy(cm b7 c1:ak)(ms:List gh)(c2:List sP)(sc d:J)(ins:List bC)(mem:List (List bC))(w:ag)(bE:H3 w cm ms c2)(b6:ft w b7 ins)(fB:ins.length<=9223372036854775807)(bN:kh w c1 mem):
  bg 30 #[cm,sc,aF #[d,b7,c1]] w (ZC (qW ms c2 sc d ins mem) w):=by
 unfold ZC;obtain⟨dw,At,jZ,fS,cH,rfl,a1,bH⟩:=bE;obtain⟨c5,ce,rfl,_,_⟩:=id a1;obtain⟨hM,cs,rfl,nM,aj⟩:=bH.at_;obtain⟨eh,ci,rfl,_⟩:=id b6;obtain⟨ff,lh,rfl,gp,pq⟩:=bN.at_;have aV:=I (((aG w).alloc (.cells #[ae c5 ms ce,ae At jZ fS,ae hM c2 cs] 26)).alloc (.cells #[d,ae eh ins ci,ae ff mem lh] 30));by_cases ab:sc<0
 .have aX:=I (show qW ms c2 sc d ins mem=(-1,-1,6) by rw[qW,aP (.inl ab)]);rw[aX];clear a1 bH b6 bN aj pq;go_enter func30,ntmps30
  go_wp2_with fail
  go_ret3
  exact⟨rfl,aV⟩
 by_cases ad:(c2:J)<=sc
 .have aX:=I (show qW ms c2 sc d ins mem=(-1,-1,6) by rw[qW,aP (.inr ad)]);rw[aX];clear a1 bH b6 bN aj pq;go_enter func30,ntmps30
  go_wp2_with fail
  go_ret3
  exact⟨rfl,aV⟩
 have Ei:qW ms c2 sc d ins mem=if d<0\/109572<d then (-1,-1,3)else (if (lZ ms (c2[sc.toNat]?.getD ⟨0,[]⟩).ins ins).2=0 then
   (if (rG c2 (c2[sc.toNat]?.getD ⟨0,[]⟩)).2<mem.length then (((rG c2 (c2[sc.toNat]?.getD ⟨0,[]⟩)).2:J),-1,4)else yP ms (rG c2 (c2[sc.toNat]?.getD ⟨0,[]⟩)).1 0 mem)
  else (-1,((lZ ms (c2[sc.toNat]?.getD ⟨0,[]⟩).ins ins).1:J),(lZ ms (c2[sc.toNat]?.getD ⟨0,[]⟩).ins ins).2)):=by
  rw[qW,aw (by omega)]
 obtain⟨q,rfl⟩:∃q:aa,sc=q:=⟨sc.toNat,by omega⟩;rw[c7]at Ei;have GA:q<c2.length:=by omega
 obtain⟨b,off,rfl,af,aq⟩:=aj (by omega);have al:c2[q]?=some (c2[q]'GA):=bn GA;obtain⟨_,vI,fR,cx,hF⟩:=aq q _ al;have Rq:=al;have HL:=I (λw1(ai:Kept w w1)=>amI (ae c5 ms ce) (ae (some (b,off)) c2 cs) At jZ fS c2 q w1 c5 ms ce rfl (bH.kept ai) GA);unfold Yt at HL;rw[al,b9]at Ei HL;generalize c2[q]=s at*;have GC:(q:J)<c2.length:=by omega
 have se:¬(d<0\/109572<d)\/(d<0\/109572<d):=by omega
 rcases se with aE|aE
 .rw[aw aE]at Ei;have hf:¬d<0:=by omega
  have mx:¬109572<d:=by omega
  have w4:=I Ei;have cW:=I a1;have dY:=I b6;have bM:=I hF;have cB:=I pq;clear Ei a1 bH b6 bN aq pq aE Rq al ab ad hF aj;go_enter func30,ntmps30
  go_wp2_with fail
  have bh:=(aB.new w 26 #[ae c5 ms ce,ae At jZ fS,ae (some (b,off)) c2 cs]).alloc (.cells #[d,ae eh ins ci,ae ff mem lh] 30);have bm:=aB.new (w.alloc (.cells #[ae c5 ms ce,ae At jZ fS,ae (some (b,off)) c2 cs] 26)) 30 #[d,ae eh ins ci,ae ff mem lh];rw[qf]at bm;have lf:=aV.aI af cx;generalize (w.alloc (.cells #[ae c5 ms ce,ae At jZ fS,ae (some (b,off)) c2 cs] 26)).alloc (.cells #[d,ae eh ins ci,ae ff mem lh] 30)=W at*;have hE:=bG af aV.size;have Dk:=I (λw1(ai:Kept w w1)=>abd (ae c5 ms ce) At (some (b,off)) jZ fS c2 cs _ _ ms s.ins ins w1 (cW.kept ai) (dY.kept ai) (bM.kept ai) fB);unfold P_ at Dk;have a0:=aS.cell bh.lt (bh.cell 0);have eS:=aS.cell bh.lt (bh.cell 1);have a2:=aS.cell bh.lt (bh.cell 2);have cK:=aS.cell bm.lt (bm.cell 0);have aY:=aS.cell bm.lt (bm.cell 1);have a':=aS.cell bm.lt (bm.cell 2);have hD:=aS.cell hE lf;refine nc (by kernel_rfl) (by kernel_rfl) ?_
  repeat (go_big_quiet_step (first|(go_at_call 53;exact aS.call (Dk _ (aV.trans (aS.h _))))))
  refine f' ?_;rintro w2⟨⟨cj,eX⟩,aT⟩;obtain rfl:w2=cj:=aT;have c3:=aV.trans eX;have dO:=bh.kept eX;have fh:=bm.kept eX;clear a0 eS a2 cK aY a' hD lf bh bm eX;have rZ:=I c3;have OW:=I dO;have nh:=I fh;have d0:=dO.cell 0;have d1:=dO.cell 1;have d2:=dO.cell 2;have dl:=dO.lt;have g2:=fh.cell 2;have r':=fh.lt;generalize lZ ms s.ins ins=R at*;obtain⟨aY,P7⟩:=R;dsimp only at w4⊢;clear Dk bM dY c3 dO fh;by_cases ef:P7=0
  .subst ef;rw[aP rfl]at w4;have O8:=I (HL w2 rZ);clear HL;generalize rG c2 s=mj at*;obtain⟨its,lim⟩:=mj;dsimp only at w4 O8;by_cases acq:lim<mem.length
   .rw[aP acq]at w4;have Cl:(lim:J)<mem.length:=by omega
    clear cB cW;go_wp2_with (go_at_call 54;refine O8.mono ?_;rintro e ch⟨auA,rfl,IZ,bF⟩;have g2:=(nh.kept bF).cell 2;have r':=(nh.kept bF).lt)
    go_ret3
    rw[w4];exact⟨rfl,rZ.trans bF⟩
   .rw[aw acq]at w4;have Cl:¬((lim:J)<mem.length):=by omega
    go_wp2_with (go_at_call 54;refine O8.mono ?_;rintro e ch⟨auA,rfl,IZ,bF⟩;have g2:=(nh.kept bF).cell 2;have r':=(nh.kept bF).lt)
    have eO:=rZ.trans bF;have jr:=OW.kept bF;obtain⟨n,aH⟩:∃n,n=mem.length:=⟨_,rfl⟩;rw[<-aH]at cB gp⊢;have b3:=I aH;obtain⟨atZ,Ah,rfl,_⟩:=id IZ;have HF3:=I IZ;clear aH d0 d1 d2 dl g2 r' OW nh O8 Cl IZ;go_loopw [66] (λy wr=>∃i:aa,y=ah i/\i<=n/\Kept ch wr/\yP ms its i (mem.drop i)=yP ms its 0 mem) (λy _=>n-(intOf y).toNat)
    case atStart=>exact⟨0,rfl,d' _,aG _,rfl⟩
    case round=>
     obtain⟨i,rfl,dG,ax,a6⟩:=hrel;have d0:=(jr.kept ax).cell 0;have d1:=(jr.kept ax).cell 1;have d2:=(jr.kept ax).cell 2;have dl:=(jr.kept ax).lt;by_cases aN:i<n
     .obtain⟨aty,auJ,rfl,I9,MM⟩:=cB.out (by omega);have xv:mem[i]?=some (mem[i]'(by have:=b3.out;omega)):=bn _;rw[ah3 xv]at a6;obtain⟨uV,ath,aI,eU,QV⟩:=MM i _ xv;generalize mem[i]'(by have:=b3.out;omega)=l at*;have en:=eO.trans ax;have Ab:=en.aI I9 eU;have Dk:=I (abd (ae c5 ms ce) At (some (b,off)) jZ fS c2 cs _ _ ms its l wr (cW.kept en) (QV.kept en) (HF3.kept ax) uV);unfold P_ at Dk;have db:(i:J)<n:=by omega
      generalize lZ ms its l=R at*;obtain⟨bd,a8⟩:=R;dsimp only at a6 Dk;clear MM eU QV xv uV;by_cases az:a8=0
      .subst az;rw[aP rfl]at a6;have fa:=I a6;clear a6;go_wp2_with (go_at_call 53;refine Dk.mono ?_;rintro e c4⟨rfl,cy⟩)
       go_roundw
       case rel=>exact⟨i+1,rfl,aN,ax.trans cy,fa⟩
       case measure=>simp[intOf];omega
      .rw[aw az]at a6;have l_:=P1 az;have fa:=I a6;clear a6 az;go_wp2_with (go_at_call 53;refine Dk.mono ?_;rintro e c4⟨rfl,cy⟩)
       go_ret3
       rw[w4,<-fa];exact⟨rfl,en.trans cy⟩
     .have db:¬((i:J)<n):=by omega
      rw[ah4 (by have:=b3.out;omega)]at a6;have fa:=I a6;clear a6;go_wp2_with fail
      go_ret3
      rw[w4,<-fa];exact⟨rfl,eO.trans ax⟩
  .rw[aw ef]at w4;have l_:=P1 ef;clear ef HL cB cW;go_wp2_with fail
   go_ret3
   rw[w4];exact⟨rfl,rZ⟩
 .rw[aP aE]at Ei;have w4:=I Ei;rcases (show d<0\/(¬d<0/\109572<d) by omega)with h|⟨h,V'⟩
  all_goals
   clear a1 bH b6 bN aq pq aE HL Ei ab ad hF aj al Rq;go_enter func30,ntmps30
   go_wp2_with fail
   go_ret3
   rw[w4];exact⟨rfl,aV⟩
def Kept.j8{w W:ag}{aY a' bu:ho}{t1 t2 t3:dC}(h:Kept (((w.alloc (.cells aY t1)).alloc (.cells a' t2)).alloc (.cells bu t3)) W):
  aB W w t1 aY/\aB W (w.heap.size+1) t2 a'/\aB W (w.heap.size+1+1) t3 bu:=Kept.xh h
def Kept.ee{w W:ag}{aY a' bu b4:ho}{t1 t2 t3 t4:dC}(h:Kept ((((w.alloc (.cells aY t1)).alloc (.cells a' t2)).alloc (.cells bu t3)).alloc (.cells b4 t4)) W):
  aB W w t1 aY/\aB W (w.heap.size+1) t2 a'/\aB W (w.heap.size+1+1) t3 bu/\aB W (w.heap.size+1+1+1) t4 b4:=Kept.aaU h
def Kept.fm{w W:ag}{aY a' bu b4 b_:ho}{t1 t2 t3 t4 t5:dC}(h:Kept (((((w.alloc (.cells aY t1)).alloc (.cells a' t2)).alloc (.cells bu t3)).alloc (.cells b4 t4)).alloc (.cells b_ t5)) W):
  aB W w t1 aY/\aB W (w.heap.size+1) t2 a'/\aB W (w.heap.size+1+1) t3 bu/\aB W (w.heap.size+1+1+1) t4 b4/\aB W (w.heap.size+1+1+1+1) t5 b_:=by
 obtain⟨a,b,c,d⟩:=Kept.aaU (Kept.trans ((aG _).alloc _) h);refine⟨a,b,c,d,?_⟩;have:=(aB.new ((((w.alloc (.cells aY t1)).alloc (.cells a' t2)).alloc (.cells bu t3)).alloc (.cells b4 t4)) t5 b_).kept h;rwa [qf,qf,qf,qf]at this
def lq(t:dh):dN:=[ah t.k,t.e]
def S0(t:dh):(lq t).length=2:=rfl
abbrev mm(w:ag)(v:ak)(bA:List dh):Prop:=hP w lq 2 v bA
def mm.at_{w:ag}{v:ak}{xs:List dh}(h:mm w v xs):∃A cap,v=ae A xs cap/\(0<xs.length->∃b off,A=some ⟨b,off,none⟩/\b<w.heap.size/\
  ∀j t,xs[j]?=some t->aU w ⟨b,off+j*2,none⟩=some (ah t.k)/\aU w ⟨b,off+j*2+1,none⟩=some (ah t.e)):=by
 obtain⟨A,cap,aK,aj⟩:=h;refine⟨A,cap,aK,λhp=> ?_⟩;obtain⟨b,off,a7,af,aq⟩:=aj hp;exact⟨b,off,a7,af,λj t ay=>⟨aq j t ay 0 _ rfl,aq j t ay 1 _ rfl⟩⟩
end Go.Proofs.YtilhklpfkgbikaaGreatDoor
