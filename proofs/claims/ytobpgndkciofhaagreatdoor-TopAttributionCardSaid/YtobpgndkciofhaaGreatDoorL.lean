import Derived.Test.YtobpgndkciofhaaGreatDoorD
import Derived.Test.YtobpgndkciofhaaGreatDoorK
import Derived.Handy
import Derived.Deep.LoopGhost
set_option linter.all false
namespace Go.Proofs.YtobpgndkciofhaaGreatDoor
open Go.RowKit Go.Proofs.Tryz
open Go.Lib (hid)
set_option maxRecDepth 100000
set_option maxHeartbeats 8000000
def zy (w:World) (v:Value) (x:bf):Prop:=
 ∃nU n8,v= .agg #[x.ag,x.bK,x.bD,x.fa,x.dH,x.dB,nU,n8,x.src]∧kt w nU x.g∧kt w n8 x.v
theorem zy.kept {w w':World} {v:Value} {x:bf} (h:zy w v x) (aa:Kept w w'):zy w' v x:=by
 obtain⟨nU,n8,ay,I,U⟩:=h;exact⟨nU,n8,ay,I.kept aa,U.kept aa⟩
theorem fC.at_ {w:World} {v:Value} {l:List Int} (h:fC w v l):∃A cap,v= .slice A l.length cap∧(0<l.length→∃b off,A=some ⟨b,off,none⟩∧b<w.heap.size∧∀j x,l[j]?=some x→w.cell? ⟨b,off+j,none⟩=some (.int .i64 x)):=by
 obtain⟨A,cap,ay,af⟩:=h;refine⟨A,cap,ay,fun hp=> ?_⟩;obtain⟨b,off,aK,J,ah⟩:=af hp;refine⟨b,off,aK,J,fun j x aB=> ?_⟩;have:=ah j x aB 0 _ rfl;rwa [Nat.mul_one,Nat.add_zero]at this
def j3 (n:Nat) (d:Int):Bool:=decide (0≤d∧d<n)
def tR (n:Nat) (r:bf):List Int:=(fl (i' r.g)).filter (j3 n)++(fl (i' r.v)).filter (j3 n)
theorem L' (xs:List cz):(i' xs).length≤xs.length:=by
 unfold i';rw[List.length_map];exact List.length_filter_le _ _
theorem VG {l:List Int} {i:Nat} {x:Int} (h:l[i]?=some x) (p:Int→Bool):(l.take (i+1)).filter p=(l.take i).filter p++(if p x then [x]else []):=by
 rw[List.take_add_one,h,Option.toList_some,List.filter_append];congr 1
 cases hp:p x<;>simp[hp]
theorem VF (l:List Int) (p:Int→Bool) (i:Nat):((l.take i).filter p).length≤i:=Nat.le_trans (List.length_filter_le _ _) (by rw[List.length_take];omega)
def p6 (B:Nat) (l:List Int) (w:World) (e:Ending) (w':World):Prop:=∃u,e= .returned u∧cn w' B u l∧Kept w w'
theorem cn.low {w:World} {B uL:Nat} {v:Value} {l:List Int} (h:cn w B v l) (aU:uL≤B):cn w uL v l:=by
 refine⟨h.1,?_⟩;rcases h.2 with U|⟨g,cap,cur,ay,J,ae⟩
 ·exact .inl U
 ·exact .inr ⟨g,cap,cur,ay,Nat.le_trans aU J,ae⟩
theorem ad8 (v:Value) (r:bf) (n:Nat) (w:World) (aw:zy w v r) (z8:r.g.length≤48) (Cq:r.v.length≤48):Calls prog 68 #[v,n] w (p6 w.heap.size (tR n r) w):=by
 obtain⟨nU,n8,rfl,ar,dZ⟩:=aw;have dO:=hid (fun w1 (h:Kept w w1)=>L_ nU r.g w1 (ar.kept h));have eU:=hid (fun w1 (h:Kept w w1)=>L_ n8 r.v w1 (dZ.kept h));obtain⟨jg,gc,rfl,-⟩:=ar.1.at_;obtain⟨iS,gx,rfl,-⟩:=dZ.1.at_;have a7:=Nat.le_trans (yQ (i' r.g)) (Nat.le_trans (L' r.g) z8);have bx:=Nat.le_trans (yQ (i' r.v)) (Nat.le_trans (L' r.v) Cq);obtain⟨R,aw⟩:∃R,R=tR n r:=⟨_,rfl⟩;have aI:=hid (show (fl (i' r.g)).filter (j3 n)++(fl (i' r.v)).filter (j3 n)=R from aw.symm);rw[←aw];unfold aah at dO eU;generalize fl (i' r.g)=cr at*;generalize fl (i' r.v)=c2 at*;generalize r.g.length=yb at*;generalize r.v.length=fJ at*;obtain⟨i0,aE,fy,cb,eu⟩:=info_parts Tryz.rX;unfold p6;clear aw ar dZ;go_enter func68,ntmps68
 go_upto_region 1 with fail
 generalize ar:w.alloc _=W at*;obtain⟨aF,a_⟩:=Kept.az ar;clear ar;obtain⟨dL,cA⟩:=a_.p;go_upto_region 3 with (go_at_call 53;refine (dO.out _ (by with_reducible repeat first|exact .refl _|assumption|refine .drew ?_|refine .alloc ?_ _|refine .setCell ?_ (by (try simp only);omega) _|refine .trans ?_ ‹Kept _ _›)).mono ?_;rintro e w1 ⟨u1,u2,u3,rfl,-,D4,-,ak⟩;obtain⟨cl,aC,rfl,I⟩:=fC.at_ D4;have H1:=hid I;have iP:=hid ak;clear D4 I ak)
 have aS:=a_.kept iP.out;have bB:=aF.trans iP.out;clear dL cA a_;obtain⟨dL,cA⟩:=aS.p;go_upto_region 4 with (go_at_call 53;refine (eU.out _ (by with_reducible repeat first|exact .refl _|assumption|refine .drew ?_|refine .alloc ?_ _|refine .setCell ?_ (by (try simp only);omega) _|refine .trans ?_ ‹Kept _ _›)).mono ?_;rintro e w2 ⟨v1,v2,v3,rfl,-,nV,-,a'⟩;obtain⟨cM,aM,rfl,U⟩:=fC.at_ nV;have sh:=hid U;have la:=hid a';clear nV U a')
 have bR:=bB.trans la.out;replace H1:Hid (0<cr.length→∃b off,cl=some ⟨b,off,none⟩∧b<w2.heap.size∧∀(j:Nat) (x:Int),cr[j]?=some x→w2.cell? ⟨b,off+j,none⟩=some (.int .i64 x)):=hid fun hp=>by
  obtain⟨b,off,aZ,J,ah⟩:=H1.out hp;exact⟨b,off,aZ,bd J la.out.size,fun j x aB=>la.out.ad J (ah j x aB)⟩
 clear dL cA aS dO eU;go_wp2_with fail
 go_loopw [5,32] (fun a y wr=>∃i:Nat,y= .int .i64 i∧i≤cr.length∧Kept w2 wr∧cn wr w2.heap.size a ((cr.take i).filter (j3 n))) (fun _ y _=>cr.length-(intOf y).toNat)
 case atStart=>exact⟨0,rfl,Nat.zero_le _,aQ _,World.ownsRow_nil _ _ _ _⟩
 case round=>
  obtain⟨i,rfl,de,ab,da⟩:=hrel;by_cases aD:i<cr.length
  ·obtain⟨bY,jv,rfl,ea,fH⟩:=H1.out (by omega);have ai:cr[i]?=some (cr[i]'aD):=a8 _;have bZ:=fH i _ ai;have T:=VG ai (j3 n);have L:((cr.take i).filter (j3 n)).length≤48+i:=by have aN:=VF cr (j3 n) i;omega
   generalize cr[i]'aD=X at*;have gd:=(ab).ad ea bZ;have c6:(i:Int)<cr.length:=by omega
   have dM:=hid da;have sn:=hid ab;have ch:=hid T;clear fH ai bZ da ab T;by_cases hp:0≤X∧X<n
   ·obtain⟨dq,dR⟩:=hp;have ma:j3 n X=true:=decide_eq_true ⟨dq,dR⟩;have cV:=hid ma;clear ma;go_wp2_with (at_builtin;refine wpList_append_own_at _ rfl (.tmp 43) (.tmp 45) 92 rfl w2.heap.size 3 i0 () 1 8 underlying92 aE fy cb eu rfl (by decide) _ ((cr.take i).filter (j3 n)).length (((cr.take i).filter (j3 n)).map (.int .i64)) rfl (World.ownsRow.alloc dM.out _) ⟨wr.heap.size,0,none⟩ 1 1 [.int .i64 X] rfl rfl (cell_one_new _ _ _) (nz X) (by unfold maxLen;omega) (by omega) (by have:=sn.out.size;simp;omega) ?_;intro v' cf hy cd _ eG;have dW:=hid (And.intro hy (And.intro cd eG));clear hy cd eG)
    obtain⟨I,U,bp⟩:=dW.out;go_roundw
    case rel=>exact⟨i+1,rfl,aD,kg (sn.out.alloc _) (World.ownsRow.alloc dM.out _) (Nat.le_refl _) U,by rw[ch.out,cV.out,if_pos rfl];exact r9 I⟩
    case measure=>simp[intOf];omega
   ·have ma:j3 n X=false:=decide_eq_false hp;have au:X<0∨(0≤X∧¬(X<n)):=by omega
    have cV:=hid ma;clear ma hp;rcases au with dq|⟨dq,dR⟩
    ·have fU:¬(0≤X):=by omega
     go_wp2_with fail
     go_roundw
     case rel=>exact⟨i+1,rfl,aD,sn.out,by rw[ch.out,cV.out,if_neg (by simp),List.append_nil];exact dM.out⟩
     case measure=>simp[intOf];omega
    ·go_wp2_with fail
     go_roundw
     case rel=>exact⟨i+1,rfl,aD,sn.out,by rw[ch.out,cV.out,if_neg (by simp),List.append_nil];exact dM.out⟩
     case measure=>simp[intOf];omega
  ·obtain rfl:i=cr.length:=by omega
   rw[List.take_length]at da;have c6:¬((cr.length:Int)<cr.length):=by omega
   have Nx:=hid da;have gM:=hid ab;clear da ab aD c6 de;go_wp2_with fail
   go_loopw [5,50] (fun a y wr=>∃i:Nat,y= .int .i64 i∧i≤c2.length∧Kept w2 wr∧cn wr w2.heap.size a (cr.filter (j3 n)++(c2.take i).filter (j3 n))) (fun _ y _=>c2.length-(intOf y).toNat)
   case atStart=>exact⟨0,rfl,Nat.zero_le _,gM.out,by rw[List.take_zero,List.filter_nil,List.append_nil];exact Nx.out⟩
   case round=>
    obtain⟨i,rfl,de,ab,da⟩:=hrel;by_cases aD:i<c2.length
    ·obtain⟨bY,jv,rfl,ea,fH⟩:=sh.out (by omega);have ai:c2[i]?=some (c2[i]'aD):=a8 _;have bZ:=fH i _ ai;have T:=VG ai (j3 n);have L:(cr.filter (j3 n)++(c2.take i).filter (j3 n)).length≤48+i:=by rw[List.length_append];have aO:=List.length_filter_le (j3 n) cr;have aN:=VF c2 (j3 n) i;omega
     generalize c2[i]'aD=X at*;have gd:=(ab).ad ea bZ;have c6:(i:Int)<c2.length:=by omega
     have dM:=hid da;have sn:=hid ab;have ch:=hid T;clear fH ai bZ da ab T;by_cases hp:0≤X∧X<n
     ·obtain⟨dq,dR⟩:=hp;have ma:j3 n X=true:=decide_eq_true ⟨dq,dR⟩;have cV:=hid ma;clear ma;go_wp2_with (at_builtin;refine wpList_append_own_at _ rfl (.tmp 61) (.tmp 63) 92 rfl w2.heap.size 3 i0 () 1 8 underlying92 aE fy cb eu rfl (by decide) _ (cr.filter (j3 n)++(c2.take i).filter (j3 n)).length ((cr.filter (j3 n)++(c2.take i).filter (j3 n)).map (.int .i64)) rfl (World.ownsRow.alloc dM.out _) ⟨wr.heap.size,0,none⟩ 1 1 [.int .i64 X] rfl rfl (cell_one_new _ _ _) (nz X) (by unfold maxLen;omega) (by omega) (by have:=sn.out.size;simp;omega) ?_;intro v' cf hy cd _ eG;have dW:=hid (And.intro hy (And.intro cd eG));clear hy cd eG)
      obtain⟨I,U,bp⟩:=dW.out;go_roundw
      case rel=>exact⟨i+1,rfl,aD,kg (sn.out.alloc _) (World.ownsRow.alloc dM.out _) (Nat.le_refl _) U,by rw[ch.out,cV.out,if_pos rfl,←List.append_assoc];exact r9 I⟩
      case measure=>simp[intOf];omega
     ·have ma:j3 n X=false:=decide_eq_false hp;have au:X<0∨(0≤X∧¬(X<n)):=by omega
      have cV:=hid ma;clear ma hp;rcases au with dq|⟨dq,dR⟩
      ·have fU:¬(0≤X):=by omega
       go_wp2_with fail
       go_roundw
       case rel=>exact⟨i+1,rfl,aD,sn.out,by rw[ch.out,cV.out,if_neg (by simp),List.append_nil];exact dM.out⟩
       case measure=>simp[intOf];omega
      ·go_wp2_with fail
       go_roundw
       case rel=>exact⟨i+1,rfl,aD,sn.out,by rw[ch.out,cV.out,if_neg (by simp),List.append_nil];exact dM.out⟩
       case measure=>simp[intOf];omega
    ·obtain rfl:i=c2.length:=by omega
     rw[List.take_length]at da;have c6:¬((c2.length:Int)<c2.length):=by omega
     have dM:=hid da;have sn:=hid ab;clear da ab;go_wp2_with fail
     go_ret;exact⟨_,rfl,by rw[←aI.out];exact cn.low dM.out bR.size,bR.trans sn.out⟩
theorem hl.open_ {w:World} {v:Value} {E:dC} (h:hl w v E):∃cl aC cM aM cX a1 ef bN dk bJ,v= .agg #[E.dt,.slice cl E.ins.length aC,.slice cM E.ds.length aM,.slice cX E.ms.length a1,.slice ef E.mt.length bN,.slice dk E.tb.length bJ]∧
  ff w (.slice cl E.ins.length aC) E.ins∧ff w (.slice cM E.ds.length aM) E.ds∧ld w (.slice cX E.ms.length a1) E.ms∧kb w (.slice ef E.mt.length bN) E.mt∧cH 6 kU w (.slice dk E.tb.length bJ) E.tb:=by
 obtain⟨bo,b6,bW,b4,bv,rfl,I,U,ae,aJ,bp⟩:=h;obtain⟨cl,aC,rfl,-⟩:=id I;obtain⟨cM,aM,rfl,-⟩:=id U;obtain⟨cX,a1,rfl,-⟩:=id ae;obtain⟨ef,bN,rfl,-⟩:=id aJ;obtain⟨dk,bJ,rfl,-⟩:=id bp;exact⟨cl,aC,cM,aM,cX,a1,ef,bN,dk,bJ,rfl,I,U,ae,aJ,bp⟩
theorem ff.get {w:World} {A:Option Addr} {n c:Nat} {xs:List bg} (h:ff w (.slice A n c) xs) {k:Nat} {x:bg} (aa:xs[k]?=some x):∃b off,A=some ⟨b,off,none⟩∧b<w.heap.size∧w.cell? ⟨b,off+k*3,none⟩=some (.int .i64 x.k)∧w.cell? ⟨b,off+k*3+1,none⟩=some (.int .i64 x.e)∧w.cell? ⟨b,off+k*3+2,none⟩=some (.int .i64 x.n):=by
 obtain⟨nE,gf,ay,af⟩:=h.at_;obtain⟨rfl,-,-⟩:=Value.slice.inj ay;obtain⟨b,off,aK,J,ah⟩:=af (by have:=(b8 aa).1;omega);obtain⟨bZ,b3,cT⟩:=ah k x aa;exact⟨b,off,aK,J,bZ,b3,cT⟩
theorem cH.get {α:Type} {k:Nat} {P:World→Nat→Nat→α→Prop} {w:World} {A:Option Addr} {n c:Nat} {xs:List α} (h:cH k P w (.slice A n c) xs) {i:Nat} {x:α} (aE:xs[i]?=some x):∃b off,A=some ⟨b,off,none⟩∧b<w.heap.size∧P w b (off+i*k) x:=by
 obtain⟨nE,gf,ay,_,_,af⟩:=h;obtain⟨rfl,-,-⟩:=Value.slice.inj ay;obtain⟨b,off,aK,J,ah⟩:=af (by have:=(b8 aE).1;omega);exact⟨b,off,aK,J,ah i x aE⟩
theorem kb.get {w:World} {A:Option Addr} {n c:Nat} {xs:List cO} (h:kb w (.slice A n c) xs) {k:Nat} {x:cO} (aa:xs[k]?=some x):∃b off,A=some ⟨b,off,none⟩∧b<w.heap.size∧w.cell? ⟨b,off+k*2,none⟩=some (.int .i64 x.k)∧w.cell? ⟨b,off+k*2+1,none⟩=some (.int .i64 x.e):=by
 obtain⟨nE,gf,ay,af⟩:=h.at_;obtain⟨rfl,-,-⟩:=Value.slice.inj ay;obtain⟨b,off,aK,J,ah⟩:=af (by have:=(b8 aa).1;omega);obtain⟨bZ,b3⟩:=ah k x aa;exact⟨b,off,aK,J,bZ,b3⟩
theorem wU {α:Type} {xs:List α} {n:Int} (h:lL n xs.length=true):∃(k:Nat) (x:α),n=k∧(k:Int)<xs.length∧xs[k]?=some x:=by
 unfold lL at h;simp only[decide_eq_true_eq]at h;have aa:n.toNat<xs.length:=by omega
 exact⟨n.toNat,xs[n.toNat],by omega,by omega,a8 aa⟩
def om (b:Bool) (w:World) (e:Ending) (w':World):Prop:=e= .returned (.bool b)∧Kept w w'
theorem acn (o n:Int) (c0 bE:Value) (args:List bg) (E:dC) (w:World) (aX:hl w bE E) (aL:o=7) (hex:lL n E.ins.length=true):Calls prog 143 #[.agg #[o,n],c0,bE] w (om (gO ⟨o,n⟩ args E) w):=by
 unfold om;obtain⟨cl,aC,cM,aM,cX,a1,ef,bN,dk,bJ,rfl,I,U,ae,aJ,bp⟩:=aX.open_;obtain⟨k,x,rfl,jI,af⟩:=wU hex;obtain⟨b,off,rfl,J,bZ,b3,cT⟩:=I.get af;have aI:=hid (show gO ⟨o,k⟩ args E=gH x by unfold gO;simp[af,aL]);obtain⟨R,aw⟩:∃R,R=gO ⟨o,k⟩ args E:=⟨_,rfl⟩;rw[←aw]at aI⊢;clear aw;have kW:(o==7)=true:=by simp;omega
 clear hex af I U ae aJ bp aX aL;obtain⟨e5,fK,ks⟩:=x;have cV:=hid (fun w=>AF e5 fK ks w);obtain⟨dt,ins,ds,ms,mt,tb⟩:=E;dsimp only at*;go_enter func143,ntmps143
 go_upto_region 1 with fail
 generalize ar:(w.alloc _).alloc _=W at*;obtain⟨aF,a_,aS⟩:=Kept.a6 ar;clear ar;obtain⟨dL,cA⟩:=a_.p;obtain⟨dq,a7⟩:=aS.p;have gd:=aF.ad J bZ;have hO:=aF.ad J b3;have iv:=aF.ad J cT;have fO:=bd J aF.size;clear bZ b3 cT;go_wp2_with (go_at_call 145;refine (cV.out _).mono ?_;rintro y w1 ⟨rfl,ak⟩)
 go_ret;exact⟨eD aI.out.symm,(by with_reducible repeat first|exact .refl _|assumption|refine .drew ?_|refine .alloc ?_ _|refine .setCell ?_ (by (try simp only);omega) _|refine .trans ?_ ‹Kept _ _›)⟩
theorem aco (o n:Int) (c0 bE:Value) (args:List bg) (E:dC) (w:World) (aX:hl w bE E) (aL:o=8) (hex:lL n E.ds.length=true):Calls prog 143 #[.agg #[o,n],c0,bE] w (om (gO ⟨o,n⟩ args E) w):=by
 unfold om;obtain⟨cl,aC,cM,aM,cX,a1,ef,bN,dk,bJ,rfl,I,U,ae,aJ,bp⟩:=aX.open_;obtain⟨k,x,rfl,jI,af⟩:=wU hex;obtain⟨b,off,rfl,J,bZ,b3,cT⟩:=U.get af;have aI:=hid (show gO ⟨o,k⟩ args E=gH x by unfold gO;simp[af,aL]);obtain⟨R,aw⟩:∃R,R=gO ⟨o,k⟩ args E:=⟨_,rfl⟩;rw[←aw]at aI⊢;clear aw;have kW:(o==8)=true:=by simp;omega
 have mx:(o==7)=false:=by simp;omega
 clear hex af I U ae aJ bp aX aL;obtain⟨e5,fK,ks⟩:=x;have cV:=hid (fun w=>AF e5 fK ks w);obtain⟨dt,ins,ds,ms,mt,tb⟩:=E;dsimp only at*;go_enter func143,ntmps143
 go_upto_region 1 with fail
 generalize ar:(w.alloc _).alloc _=W at*;obtain⟨aF,a_,aS⟩:=Kept.a6 ar;clear ar;obtain⟨dL,cA⟩:=a_.p;obtain⟨dq,a7⟩:=aS.p;have gd:=aF.ad J bZ;have hO:=aF.ad J b3;have iv:=aF.ad J cT;have fO:=bd J aF.size;clear bZ b3 cT;go_wp2_with (go_at_call 145;refine (cV.out _).mono ?_;rintro y w1 ⟨rfl,ak⟩)
 go_ret;exact⟨eD aI.out.symm,(by with_reducible repeat first|exact .refl _|assumption|refine .drew ?_|refine .alloc ?_ _|refine .setCell ?_ (by (try simp only);omega) _|refine .trans ?_ ‹Kept _ _›)⟩
theorem acp (o n:Int) (c0 bE:Value) (args:List bg) (E:dC) (w:World) (aX:hl w bE E) (aL:o=36∨o=37∨o=38∨o=39) (hex:lL n E.mt.length=true):Calls prog 143 #[.agg #[o,n],c0,bE] w (om (gO ⟨o,n⟩ args E) w):=by
 unfold om;obtain⟨cl,aC,cM,aM,cX,a1,ef,bN,dk,bJ,rfl,I,U,ae,aJ,bp⟩:=aX.open_;obtain⟨k,x,rfl,jI,af⟩:=wU hex;obtain⟨b,off,rfl,J,bZ,b3⟩:=aJ.get af;have aI:=hid (show gO ⟨o,k⟩ args E=Ic o x by
  unfold gO;rw[if_neg (by simp only;omega),if_neg (by simp only;omega),if_neg (by simp only;omega),if_neg (by simp only;omega),if_pos (by simp only;omega)];simp only[Int.toNat_natCast,af,Option.getD_some])
 obtain⟨R,aw⟩:∃R,R=gO ⟨o,k⟩ args E:=⟨_,rfl⟩;rw[←aw]at aI⊢;clear aw;obtain⟨mx,fv,Bx,Gw⟩:(o==7)=false∧(o==8)=false∧(o==33)=false∧(o==34)=false:=by refine⟨?_,?_,?_,?_⟩<;>(simp;omega)
 obtain⟨e5,fK⟩:=x;have cV:=hid (fun w=>agU o e5 fK w);obtain⟨q,au⟩:∃q,q=Ic o ⟨e5,fK⟩:=⟨_,rfl⟩;rw[←au]at cV aI;have Ce:(o==36)=true∨((o==36)=false∧(o==37)=true)∨((o==36)=false∧(o==37)=false∧(o==38)=true)∨((o==36)=false∧(o==37)=false∧(o==38)=false∧(o==39)=true):=by simp;omega
 clear hex af I U ae aJ bp aX au aL;obtain⟨dt,ins,ds,ms,mt,tb⟩:=E;dsimp only at*;rcases Ce with aO|⟨aO,aN⟩|⟨aO,aN,cK⟩|⟨aO,aN,cK,dA⟩
 all_goals
  go_enter func143,ntmps143
  go_upto_region 16 with fail
  generalize ar:(w.alloc _).alloc _=W at*;obtain⟨aF,a_,aS⟩:=Kept.a6 ar;clear ar;obtain⟨dL,cA⟩:=a_.p;obtain⟨dq,a7⟩:=aS.p;have z0:=al.cell a_.lt (a_.cell 0);have e6:=al.cell a_.lt (a_.cell 1);have z4:=al.cell aS.lt (aS.cell 4);have gd:=al.cell (bd J aF.size) (aF.ad J bZ);have hO:=al.cell (bd J aF.size) (aF.ad J b3);clear bZ b3;refine fQ (by kernel_rfl) (by kernel_rfl) ?_
  repeat (go_big_quiet_step ((go_at_call 160;exact al.call (cV.out _))))
  refine wpQuiet_nil ?_;rintro w2 ⟨⟨bt,cj⟩,bb⟩;obtain rfl:w2=bt:=bb;go_wp2_with fail
  go_ret;exact⟨eD aI.out.symm,(by with_reducible repeat first|exact .refl _|assumption|refine .drew ?_|refine .alloc ?_ _|refine .setCell ?_ (by (try simp only);omega) _|refine .trans ?_ ‹Kept _ _›)⟩
theorem JV (o n:Int) (c0 bE:Value) (args:List bg) (E:dC) (w:World) (aX:hl w bE E) (a:bg) (aZ:args=[a]) (aK:ff w c0 args) (aL:o=10∨o=25∨o=31∨o=32):Calls prog 143 #[.agg #[o,n],c0,bE] w (om (gO ⟨o,n⟩ args E) w):=by
 unfold om;obtain⟨cl,aC,cM,aM,cX,a1,ef,bN,dk,bJ,rfl,I,U,ae,aJ,bp⟩:=aX.open_;subst aZ;obtain⟨uJ,oo,rfl,-⟩:=aK.at_;obtain⟨b,off,rfl,J,bZ,b3,cT⟩:=aK.get (k:=0) rfl;have aI:=hid (show gO ⟨o,n⟩ [a] E=IK o a.k by
  unfold gO;rw[if_neg (by simp only;omega),if_neg (by simp only;omega),if_neg (by simp only;omega),if_neg (by simp only;omega),if_neg (by simp only;omega)])
 obtain⟨R,aw⟩:∃R,R=gO ⟨o,n⟩ [a] E:=⟨_,rfl⟩;rw[←aw]at aI⊢;clear aw;obtain⟨mx,fv,Bx,Gw,DQ,DR,DS,DT⟩:(o==7)=false∧(o==8)=false∧(o==33)=false∧(o==34)=false∧(o==36)=false∧(o==37)=false∧(o==38)=false∧(o==39)=false:=by refine⟨?_,?_,?_,?_,?_,?_,?_,?_⟩<;>(simp;omega)
 have cV:=hid (fun w=>akd o a.k w);obtain⟨q,au⟩:∃q,q=IK o a.k:=⟨_,rfl⟩;rw[←au]at cV aI;clear I U ae aJ bp aX au aL aK;obtain⟨dt,ins,ds,ms,mt,tb⟩:=E;dsimp only at*;go_enter func143,ntmps143
 go_upto_region 19 with fail
 generalize ar:(w.alloc _).alloc _=W at*;obtain⟨aF,a_,aS⟩:=Kept.a6 ar;clear ar;obtain⟨dL,cA⟩:=a_.p;obtain⟨dq,a7⟩:=aS.p;have z0:=al.cell a_.lt (a_.cell 0);have gd:=al.cell (bd J aF.size) (aF.ad J bZ);clear bZ b3 cT
 (try simp only[Nat.zero_mul,Nat.add_zero]at gd)
 refine fQ (by kernel_rfl) (by kernel_rfl) ?_
 repeat (go_big_quiet_step ((go_at_call 161;exact al.pure (cV.out _))))
 refine wpQuiet_nil ?_;rintro w2 ⟨⟨bt,cj⟩,bb⟩;obtain rfl:w2=bt:=bb;go_wp2_with fail
 go_ret;exact⟨eD aI.out.symm,(by with_reducible repeat first|exact .refl _|assumption|refine .drew ?_|refine .alloc ?_ _|refine .setCell ?_ (by (try simp only);omega) _|refine .trans ?_ ‹Kept _ _›)⟩
theorem acj (o n:Int) (c0 bE:Value) (args:List bg) (E:dC) (w:World) (aX:hl w bE E) (a b:bg) (aZ:args=[a,b]) (aK:ff w c0 args) (aL:(11≤o∧o≤22)∨(27≤o∧o≤30)):Calls prog 143 #[.agg #[o,n],c0,bE] w (om (gO ⟨o,n⟩ args E) w):=by
 unfold om;obtain⟨cl,aC,cM,aM,cX,a1,ef,bN,dk,bJ,rfl,I,U,ae,aJ,bp⟩:=aX.open_;subst aZ;obtain⟨uJ,oo,rfl,-⟩:=aK.at_;obtain⟨lg,off,rfl,J,bZ,b3,cT⟩:=aK.get (k:=0) rfl;obtain⟨ey,ZP,he,-,e3,ee,fW⟩:=aK.get (k:=1) rfl;obtain⟨rfl,rfl,-⟩:=Addr.mk.inj (Option.some.inj he);have aI:=hid (show gO ⟨o,n⟩ [a,b] E=ve o a b by
  unfold gO;rw[if_neg (by simp only;omega),if_neg (by simp only;omega),if_neg (by simp only;omega),if_neg (by simp only;omega),if_neg (by simp only;omega)])
 obtain⟨R,aw⟩:∃R,R=gO ⟨o,n⟩ [a,b] E:=⟨_,rfl⟩;rw[←aw]at aI⊢;clear aw;obtain⟨mx,fv,Bx,Gw,DQ,DR,DS,DT⟩:(o==7)=false∧(o==8)=false∧(o==33)=false∧(o==34)=false∧(o==36)=false∧(o==37)=false∧(o==38)=false∧(o==39)=false:=by refine⟨?_,?_,?_,?_,?_,?_,?_,?_⟩<;>(simp;omega)
 have cV:=hid (fun w=>acP o a.k a.e a.n b.k b.e b.n (by omega) w);obtain⟨q,au⟩:∃q,q=ve o a b:=⟨_,rfl⟩;rw[←au]at aI;rw[show ve o ⟨a.k,a.e,a.n⟩ ⟨b.k,b.e,b.n⟩=q from au.symm]at cV;clear I U ae aJ bp aX au aL aK he;obtain⟨dt,ins,ds,ms,mt,tb⟩:=E;dsimp only at*;go_enter func143,ntmps143
 go_upto_region 21 with fail
 generalize ar:(w.alloc _).alloc _=W at*;obtain⟨aF,a_,aS⟩:=Kept.a6 ar;clear ar;obtain⟨dL,cA⟩:=a_.p;obtain⟨dq,a7⟩:=aS.p;have z0:=al.cell a_.lt (a_.cell 0);have gd:=al.cell (bd J aF.size) (aF.ad J bZ);have hO:=al.cell (bd J aF.size) (aF.ad J b3);have iv:=al.cell (bd J aF.size) (aF.ad J cT);have wK:=al.cell (bd J aF.size) (aF.ad J e3);have Bu:=al.cell (bd J aF.size) (aF.ad J ee);have Gr:=al.cell (bd J aF.size) (aF.ad J fW);clear bZ b3 cT e3 ee fW
 (try simp only[Nat.zero_mul,Nat.one_mul,Nat.add_zero]at gd hO iv wK Bu Gr)
 refine fQ (by kernel_rfl) (by kernel_rfl) ?_
 repeat (go_big_quiet_step ((go_at_call 162;exact al.call (cV.out _))))
 refine wpQuiet_nil ?_;rintro w2 ⟨⟨bt,cj⟩,bb⟩;obtain rfl:w2=bt:=bb;go_wp2_with fail
 go_ret;exact⟨eD aI.out.symm,(by with_reducible repeat first|exact .refl _|assumption|refine .drew ?_|refine .alloc ?_ _|refine .setCell ?_ (by (try simp only);omega) _|refine .trans ?_ ‹Kept _ _›)⟩
theorem Uq (o n:Int) (c0 bE:Value) (args:List bg) (E:dC) (w:World) (aX:hl w bE E) (aZ:args=[]) (aK:ff w c0 args) (aL:(1≤o∧o≤6)∨o=9∨o=35):Calls prog 143 #[.agg #[o,n],c0,bE] w (om (gO ⟨o,n⟩ args E) w):=by
 unfold om;obtain⟨cl,aC,cM,aM,cX,a1,ef,bN,dk,bJ,rfl,I,U,ae,aJ,bp⟩:=aX.open_;subst aZ;obtain⟨uJ,oo,rfl,-⟩:=aK.at_;have aI:=hid (show gO ⟨o,n⟩ [] E=true by
  unfold gO;rw[if_neg (by simp only;omega),if_neg (by simp only;omega),if_neg (by simp only;omega),if_neg (by simp only;omega),if_neg (by simp only;omega)])
 obtain⟨R,aw⟩:∃R,R=gO ⟨o,n⟩ [] E:=⟨_,rfl⟩;rw[←aw]at aI⊢;clear aw;obtain⟨mx,fv,Bx,Gw,DQ,DR,DS,DT⟩:(o==7)=false∧(o==8)=false∧(o==33)=false∧(o==34)=false∧(o==36)=false∧(o==37)=false∧(o==38)=false∧(o==39)=false:=by refine⟨?_,?_,?_,?_,?_,?_,?_,?_⟩<;>(simp;omega)
 clear I U ae aJ bp aX aL aK;go_enter func143,ntmps143
 go_wp2_with fail
 go_ret;exact⟨eD aI.out.symm,(by with_reducible repeat first|exact .refl _|assumption|refine .drew ?_|refine .alloc ?_ _|refine .setCell ?_ (by (try simp only);omega) _|refine .trans ?_ ‹Kept _ _›)⟩
theorem acm (o n:Int) (c0 bE:Value) (args:List bg) (E:dC) (w:World) (aX:hl w bE E) (a:bg) (aZ:args=[a]) (aK:ff w c0 args) (aL:o=34) (aA:0≤n∧n≤9223372036854775807) (hex:n/8<E.tb.length):Calls prog 143 #[.agg #[o,n],c0,bE] w (om (gO ⟨o,n⟩ args E) w):=by
 unfold om;obtain⟨cl,aC,cM,aM,cX,a1,ef,bN,dk,bJ,rfl,I,U,ae,aJ,bp⟩:=aX.open_;subst aZ;obtain⟨uJ,oo,rfl,-⟩:=aK.at_;obtain⟨b,off,rfl,J,bZ,b3,cT⟩:=aK.get (k:=0) rfl;obtain⟨k,T,yp,jI,bl⟩:=wU (xs:=E.tb) (n:=n/8) (by unfold lL;exact decide_eq_true ⟨by omega,hex⟩);obtain⟨c9,Rv,rfl,hW,⟨t0,-⟩,⟨t1,-⟩,⟨t2,-⟩,⟨t3,-⟩,⟨t4,-⟩,⟨_,t5,k0⟩⟩:=bp.get bl;obtain⟨mU,ou,rfl,-⟩:=k0.at_;have aI:=hid (show gO ⟨o,n⟩ [a] E=(decide (a.k=3)&&(decide (T.d_=3∧T.eo=0)&&decide (T.cy=4∧T.bE=0))) by
  unfold gO;rw[if_neg (by simp only;omega),if_neg (by simp only;omega),if_neg (by simp only;omega),if_pos (by simp only;omega)];simp[yp,bl])
 obtain⟨R,aw⟩:∃R,R=gO ⟨o,n⟩ [a] E:=⟨_,rfl⟩;rw[←aw]at aI⊢;clear aw;obtain⟨mx,fv,Bx,kW⟩:(o==7)=false∧(o==8)=false∧(o==33)=false∧(o==34)=true:=by refine⟨?_,?_,?_,?_⟩<;>(simp;omega)
 obtain⟨ag,d_,eo,cy,r',rows⟩:=T;obtain⟨b9,cL,an⟩:=a;unfold ed at t0 t1 t2 t3 t4 t5;have Yf:n.tdiv 8=k:=by rw[Int.tdiv_eq_ediv_of_nonneg aA.1];exact yp
 obtain⟨hY,en⟩:=aA;clear I U ae aJ bp aX aL aK hex bl b3 cT k0;obtain⟨dt,ins,ds,ms,mt,tb⟩:=E;dsimp only at*;go_enter func143,ntmps143
 go_upto_region 1 with fail
 generalize ar:(w.alloc _).alloc _=W at*;obtain⟨aF,a_,aS⟩:=Kept.a6 ar;clear ar;obtain⟨dL,cA⟩:=a_.p;obtain⟨dq,a7⟩:=aS.p;have gd:=aF.ad J bZ;have DG:=aF.ad hW t0;have nP:=aF.ad hW t1;have mw:=aF.ad hW t2;have oj:=aF.ad hW t3;have DH:=aF.ad hW t4;have DI:=aF.ad hW t5;have fO:=bd J aF.size;have WZ:=bd hW aF.size;clear bZ t0 t1 t2 t3 t4 t5
 (try simp only[Nat.zero_mul,Nat.add_zero]at gd)
 by_cases az:b9=3
 case neg=>
  have f1:(b9==3)=false:=by simpa using az
  have iu:=hid (show R=false by rw[aI.out,decide_eq_false az];rfl);go_wp2_with fail
  go_ret;exact⟨eD iu.out.symm,(by with_reducible repeat first|exact .refl _|assumption|refine .drew ?_|refine .alloc ?_ _|refine .setCell ?_ (by (try simp only);omega) _|refine .trans ?_ ‹Kept _ _›)⟩
 subst az;by_cases a6:d_=3∧eo=0
 case neg=>
  have iu:=hid (show R=false by rw[aI.out,decide_eq_false a6];rfl);rcases (show¬d_=3∨(d_=3∧¬eo=0) by omega)with e|⟨rfl,e⟩
  all_goals
   clear a6;go_wp2_with fail
   go_ret;exact⟨eD iu.out.symm,(by with_reducible repeat first|exact .refl _|assumption|refine .drew ?_|refine .alloc ?_ _|refine .setCell ?_ (by (try simp only);omega) _|refine .trans ?_ ‹Kept _ _›)⟩
 obtain⟨rfl,rfl⟩:=a6;by_cases b7:cy=4∧r'=0
 case neg=>
  have iu:=hid (show R=false by rw[aI.out,decide_eq_false b7];rfl);rcases (show¬cy=4∨(cy=4∧¬r'=0) by omega)with e|⟨rfl,e⟩
  all_goals
   clear b7;go_wp2_with fail
   go_ret;exact⟨eD iu.out.symm,(by with_reducible repeat first|exact .refl _|assumption|refine .drew ?_|refine .alloc ?_ _|refine .setCell ?_ (by (try simp only);omega) _|refine .trans ?_ ‹Kept _ _›)⟩
 obtain⟨rfl,rfl⟩:=b7;have iu:=hid (show R=true by rw[aI.out];rfl);go_wp2_with fail
 go_ret;exact⟨eD iu.out.symm,(by with_reducible repeat first|exact .refl _|assumption|refine .drew ?_|refine .alloc ?_ _|refine .setCell ?_ (by (try simp only);omega) _|refine .trans ?_ ‹Kept _ _›)⟩
theorem ack (o n:Int) (c0 bE:Value) (args:List bg) (E:dC) (w:World) (aX:hl w bE E) (a:bg) (aZ:args=[a]) (aK:ff w c0 args) (aL:o=33) (hex:lL n E.tb.length=true):Calls prog 143 #[.agg #[o,n],c0,bE] w (om (gO ⟨o,n⟩ args E) w):=by
 unfold om;obtain⟨cl,aC,cM,aM,cX,a1,ef,bN,dk,bJ,rfl,I,U,ae,aJ,bp⟩:=aX.open_;subst aZ;obtain⟨uJ,oo,rfl,-⟩:=aK.at_;obtain⟨b,off,rfl,J,bZ,b3,cT⟩:=aK.get (k:=0) rfl;obtain⟨k,T,rfl,jI,bl⟩:=wU hex;obtain⟨c9,Rv,rfl,hW,⟨t0,-⟩,⟨t1,-⟩,⟨t2,-⟩,⟨t3,-⟩,⟨t4,-⟩,⟨_,t5,k0⟩⟩:=bp.get bl;obtain⟨mU,ou,rfl,-⟩:=k0.at_;have aI:=hid (show gO ⟨o,k⟩ [a] E=(tX a T.d_ T.eo&&(decide (1≤T.cy)&&decide (T.cy≤6))) by
  unfold gO;rw[if_neg (by simp only;omega),if_neg (by simp only;omega),if_pos (by simp only;omega)];simp[bl])
 obtain⟨R,aw⟩:∃R,R=gO ⟨o,k⟩ [a] E:=⟨_,rfl⟩;rw[←aw]at aI⊢;clear aw;obtain⟨mx,fv,kW⟩:(o==7)=false∧(o==8)=false∧(o==33)=true:=by refine⟨?_,?_,?_⟩<;>(simp;omega)
 obtain⟨ag,d_,eo,cy,r',rows⟩:=T;obtain⟨b9,cL,an⟩:=a;unfold ed at t0 t1 t2 t3 t4 t5;have cV:=hid (fun w=>WT b9 cL an d_ eo w);obtain⟨q,au⟩:∃q,q=tX ⟨b9,cL,an⟩ d_ eo:=⟨_,rfl⟩;rw[←au]at cV;rw[show tX ⟨b9,cL,an⟩ d_ eo=q from au.symm]at aI;clear I U ae aJ bp aX aL aK hex bl au k0;obtain⟨dt,ins,ds,ms,mt,tb⟩:=E;dsimp only at*;go_enter func143,ntmps143
 go_upto_region 1 with fail
 generalize ar:(w.alloc _).alloc _=W at*;obtain⟨aF,a_,aS⟩:=Kept.a6 ar;clear ar;obtain⟨dL,cA⟩:=a_.p;obtain⟨dq,a7⟩:=aS.p;have DG:=aF.ad hW t0;have nP:=aF.ad hW t1;have mw:=aF.ad hW t2;have oj:=aF.ad hW t3;have DH:=aF.ad hW t4;have DI:=aF.ad hW t5;have fO:=bd J aF.size;have WZ:=bd hW aF.size;clear t0 t1 t2 t3 t4 t5;go_upto_region 8 with fail
 have BT:=ao.new W 60 #[ag,d_,eo,cy,r',.slice mU rows.length ou];have bB:Kept w (W.alloc (.cells #[ag,d_,eo,cy,r',.slice mU rows.length ou] 60)):=(by with_reducible repeat first|exact .refl _|assumption|refine .drew ?_|refine .alloc ?_ _|refine .setCell ?_ (by (try simp only);omega) _|refine .trans ?_ ‹Kept _ _›);generalize W.alloc (.cells #[ag,d_,eo,cy,r',.slice mU rows.length ou] 60)=ct at*;have gd:=al.cell (bd J bB.size) (bB.ad J bZ);have hO:=al.cell (bd J bB.size) (bB.ad J b3);have iv:=al.cell (bd J bB.size) (bB.ad J cT);have e6:=al.cell BT.lt (BT.cell 1);have z2:=al.cell BT.lt (BT.cell 2);have z3:=al.cell BT.lt (BT.cell 3);clear bZ b3 cT DG nP mw oj DH DI
 (try simp only[Nat.zero_mul,Nat.add_zero]at gd hO iv)
 have hv:q=false∨(q=true∧decide (1≤cy)=false)∨(q=true∧decide (1≤cy)=true):=by cases q<;>cases decide (1≤cy)<;>simp
 rcases hv with rfl|⟨rfl,ay⟩|⟨rfl,ay⟩
 all_goals
  refine fQ (by kernel_rfl) (by kernel_rfl) ?_
  repeat (go_big_quiet_step ((go_at_call 159;exact al.call (cV.out _))))
  refine wpQuiet_nil ?_;rintro w2 ⟨⟨bt,cj⟩,bb⟩;obtain rfl:w2=bt:=bb;go_wp2_with fail
  go_ret;exact⟨eD (by rw[aI.out];first|rfl|(rw[ay];rfl)),(by with_reducible repeat first|exact .refl _|assumption|refine .drew ?_|refine .alloc ?_ _|refine .setCell ?_ (by (try simp only);omega) _|refine .trans ?_ ‹Kept _ _›)⟩
theorem ae5 (g cap n:Nat) (i j:Nat) (a b:Int) (w:World) (aE:i<n) (aB:j<n) (ai:g<w.heap.size) (aZ:w.cell? ⟨g,i,none⟩=some (.int .i64 a)) (J:w.cell? ⟨g,j,none⟩=some (.int .i64 b)):
  Calls prog 236 #[.slice (some ⟨g,0,none⟩) n cap,i,j] w fun e w'=>e= .returned (.bool (decide (a<b)))∧Kept w w':=by
 have sP:(i:Int)<n:=by omega
 have sQ:(j:Int)<n:=by omega
 have H2:=al.cell ai aZ;have H3:=al.cell ai J;go_enter func236,ntmps236
 go_wp2
 refine fQ (by kernel_rfl) (by kernel_rfl) ?_
 repeat (go_big_quiet_step (fail))
 refine wpQuiet_nil ?_;rintro _ ⟨⟨bt,af⟩,rfl⟩;go_wp2_with fail
 go_ret;exact⟨rfl,af⟩
theorem hlen (A:Option Addr) (cap n:Nat) (w:World):Calls prog 73 #[.slice A n cap] w fun e w'=>e= .returned n∧w=w':=by
 go_enter func73,ntmps73
 go_wp2
 go_ret;exact⟨rfl,rfl⟩
theorem afC (g cap n:Nat) (i j:Nat) (cur:Array Value) (a b:Int) (w:World) (aE:i<n) (aB:j<n) (aU:ao w g 3 cur) (aZ:cur[i]?=some (.int .i64 a)) (J:cur[j]?=some (.int .i64 b)):
  Calls prog 239 #[.slice (some ⟨g,0,none⟩) n cap,i,j] w fun e w'=>e= .returned (.tuple #[])∧ao w' g 3 ((cur.setIfInBounds i b).setIfInBounds j a)∧w.grownBy w' (some g):=by
 have sP:(i:Int)<n:=by omega
 have sQ:(j:Int)<n:=by omega
 have ai:=aU.lt;have H2:=(aU.cell i).trans aZ;have H3:=(aU.cell j).trans J;have aoy:=aU.frozen i;have aoz:=aU.frozen j;have aS:=aU.aP i b;have EW:=aS.cell j;rw[Array.getElem?_setIfInBounds,J,if_pos (Array.getElem?_eq_some_iff.1 aZ).1]at EW;have kj2:(w.setCell ⟨g,i,none⟩ b).cell? ⟨g,j,none⟩=some (.int .i64 b):=by rw[EW];split<;>rfl
 have fj2:=aS.frozen j;clear EW aS;go_enter func239,ntmps239
 go_wp2
 go_region
 go_wp2
 go_end0
 refine⟨rfl,((aU.aP i _).aP j _).drew,⟨rfl,rfl,rfl,by simp,fun k aa bQ=> ?_⟩⟩;have El:k≠g:=fun e=>bQ (by rw[e]);exact (Below.heap_setCell _ ⟨g,j,none⟩ _ k El).trans (Below.heap_setCell _ ⟨g,i,none⟩ _ k El)
theorem il {w:World} {B:Nat} {e:TypeId} {k n:Nat} {v:Value} {xs:List Value} (h:w.ownsRow B e k v n xs):∃A c,v= .slice A n c:=by
 rcases h.2 with⟨rfl,aj⟩|⟨g,cap,_,aj,_⟩
 ·exact⟨none,0,by rw[aj]⟩
 ·exact⟨_,_,aj⟩
theorem cn.vY {w:World} {B:Nat} {v:Value} {l:List Int} (h:cn w B v l) {p:Addr} (bQ:v.ownBlock≠some p.block) (u:Value):cn (w.setCell p u) B v l:=by
 refine⟨h.1,?_⟩;rcases h.2 with U|⟨g,cap,cur,ay,J,ai,ae⟩
 ·exact .inl U
 ·refine .inr ⟨g,cap,cur,ay,J,?_,ae⟩;have aJ:ao w g 3 cur:=ai;exact aJ.far (fun e=>bQ (by rw[ay,←e];rfl)) u
structure h' (w:World) (B R:Nat) (v:Value) (l:List Int):Prop where
 box:ao w R 177 #[v]
 own:cn w B v l
 far:v.ownBlock≠some R
 low:B≤R
structure Two (w w':World) (a:Option Nat) (r:Nat):Prop where
 os:w'.os=w.os
 tape:w'.tape=w.tape
 output:w'.output=w.output
 size:w.heap.size≤w'.heap.size
 block:∀k,k<w.heap.size→k≠r→some k≠a→w'.heap[k]?=w.heap[k]?
theorem Two.uv {w w':World} {a:Option Nat} {r:Nat} (h:w.grownBy w' a):Two w w' a r:=⟨h.os,h.tape,h.output,h.size,fun k aa _ bQ=>h.block k aa bQ⟩
theorem Two.refl (w:World) (a:Option Nat) (r:Nat):Two w w a r:=⟨rfl,rfl,rfl,Nat.le_refl _,fun _ _ _ _=>rfl⟩
theorem Two.trans {w w1 w2:World} {a b:Option Nat} {r:Nat} (h:Two w w1 a r) (k:Two w1 w2 b r) (J:b=a∨∃g,b=some g∧w.heap.size≤g):Two w w2 a r:=
 ⟨k.os.trans h.os,k.tape.trans h.tape,k.output.trans h.output,Nat.le_trans h.size k.size,fun i aE aH bQ=>(k.block i (bd aE h.size) aH (fun e=>by
  rcases J with J|⟨g,J,ai⟩
  ·exact bQ (J▸e)
  ·rw[J]at e;have:=Option.some.inj e;omega)).trans (h.block i aE aH bQ)⟩
theorem Two.iZ {w w':World} {a:Option Nat} {r:Nat} (h:Kept w w'):Two w w' a r:=⟨h.os,h.tape,h.output,h.size,fun k aa _ _=>h.block k aa⟩
theorem Two.aP {w w':World} {a:Option Nat} {r:Nat} (h:Two w w' a r) (i:Nat) (u:Value):Two w (w'.setCell ⟨r,i,none⟩ u) a r:=
 ⟨h.os,h.tape,h.output,by simp;exact h.size,fun k aa aH bQ=>(Below.heap_setCell w' ⟨r,i,none⟩ u k aH).trans (h.block k aa aH bQ)⟩
theorem afh (B R:Nat) (v:Value) (l:List Int) (x:Int) (w:World) (h:h' w B R v l) (aq:l.length≤1000000) (aU:B≤w.heap.size):
  Calls prog 238 #[.pointer (some ⟨R,0,none⟩),.iface 3 x] w fun e w'=>e= .returned (.tuple #[])∧∃v',h' w' B R v' (l++[x])∧Two w w' v.ownBlock R∧(v'.ownBlock=v.ownBlock∨∃g,v'.ownBlock=some g∧w.heap.size≤g):=by
 obtain⟨ij,hS,hT,hU,hV⟩:=info_parts Tryz.rX;have b5:=h.box.cell 0;have cA:=h.box.lt;simp only[List.getElem?_toArray,List.getElem?_cons_zero]at b5;have hta:(Instr.typeAssert (.iface 3 x) 20 3 true).run prog w= .ok (.tuple #[x,.bool true]) w:=by kernel_rfl
 have cg:=hid h;have e7:=hid aq;have C0:=hid aU;clear h aq aU;go_enter func238,ntmps238
 go_wp2_with (at_builtin;refine wpList_append_own_at _ rfl (.tmp 15) (.tmp 17) 177 rfl B 3 ij () 1 8 underlying177 hS hT hU hV rfl (by decide) v l.length (l.map (.int .i64)) rfl (World.ownsRow.alloc cg.out.own _) ⟨w.heap.size,0,none⟩ 1 1 [.int .i64 x] rfl rfl (cell_one_new _ _ _) (nz x) (by have:=e7.out;unfold maxLen;omega) (by have:=e7.out;omega) (by have:=C0.out;simp;omega) ?_;intro v' cf hy cd _ eG;have dW:=hid (And.intro hy (And.intro cd eG));have wg:ao cf R 177 #[v]:=(cd.block R (by simp;omega) (fun e=>cg.out.far e.symm)).trans (cg.out.box.alloc _);have dL:=wg.cell 0;have f0:=wg.frozen 0;have dP:=wg.lt;simp only[List.getElem?_toArray,List.getElem?_cons_zero]at dL;clear hy cd eG wg;obtain⟨dk,bJ,rfl⟩:=il dW.out.1)
 go_end0
 obtain⟨I,U,ae⟩:=dW.out;have bQ:(Value.slice dk (l.length+1) bJ).ownBlock≠some R:=by
  rcases ae with e|e
  ·rw[e];exact cg.out.far
  ·rw[e];intro a6;have:=Option.some.inj a6;simp at this;omega
 have wg:ao cf R 177 #[v]:=(U.block R (by simp;omega) (fun e=>cg.out.far e.symm)).trans (cg.out.box.alloc _);have aJ:cn cf B (.slice dk (l.length+1) bJ) (l++[x]):=r9 I;refine⟨rfl,_,⟨wg.aP 0 _,cn.vY aJ bQ _,bQ,cg.out.low⟩,((Two.iZ (Kept.alloc (aQ w) _)).trans (Two.uv U) (.inl rfl)).aP 0 _,?_⟩;rcases ae with e|e
 ·exact .inl e
 ·exact .inr ⟨_,e,by simp⟩
theorem Z2 {w:World} {B:Nat} {e:TypeId} {g n m cap:Nat} {xs:List Value} (h:w.ownsRow B e 1 (.slice (some ⟨g,0,none⟩) n cap) n xs) (hm:m≤n):w.ownsRow B e 1 (.slice (some ⟨g,0,none⟩) m cap) m (xs.take m):=by
 obtain⟨I,U⟩:=h;rcases U with⟨aj,_⟩|⟨hR,oq,cur,aj,ae,aJ,bp,eJ,kc,et⟩
 ·cases aj
 ·cases aj;refine⟨by rw[List.length_take];omega,.inr ⟨g,cap,cur,rfl,ae,aJ,by omega,eJ,kc,?_⟩⟩;rw[←et,List.take_take,Nat.min_eq_left (by omega),Nat.mul_one]
theorem aff (B R g cap:Nat) (l:List Int) (w:World) (h:h' w B R (.slice (some ⟨g,0,none⟩) l.length cap) l) (hp:0<l.length) (aq:l.length≤1000000):
  Calls prog 237 #[.pointer (some ⟨R,0,none⟩)] w fun e w'=>e= .returned (.iface 3 (.int .i64 (c4 l (l.length-1))))∧h' w' B R (.slice (some ⟨g,0,none⟩) (l.length-1) cap) (l.take (l.length-1))∧Two w w' (some g) R:=by
 have b5:=h.box.cell 0;have f0:=h.box.frozen 0;have cA:=h.box.lt;simp only[List.getElem?_toArray,List.getElem?_cons_zero]at b5;obtain⟨x,af⟩:∃x,l[l.length-1]?=some x:=⟨_,a8 (show l.length-1<l.length by omega)⟩;have e4:c4 l (l.length-1)=x:=by unfold c4;rw[af];rfl
 have aC:w.cell? ⟨g,l.length-1,none⟩=some (.int .i64 x):=by
  rcases h.own.2 with⟨_,aj⟩|⟨hR,oq,cur,aj,ae,aJ,bp,eJ,kc,et⟩
  ·omega
  ·cases aj;rw[cell_of_row w g _ cur _ _ aJ];have:=congrArg (fun q=>q[l.length-1]?) et;simp only[Nat.mul_one]at this;rw[List.getElem?_take_of_lt (by omega),List.getElem?_map,af,Array.getElem?_toList]at this;exact this
 have Y':g<w.heap.size:=by
  rcases h.own.2 with⟨aj,_⟩|⟨hR,oq,cur,aj,ae,aJ,bp,eJ,kc,et⟩
  ·cases aj
  ·cases aj;exact (Array.getElem?_eq_some_iff.1 aJ).1
 have w0:l.length≤cap:=by
  rcases h.own.2 with⟨aj,_⟩|⟨hR,oq,cur,aj,ae,aJ,bp,eJ,kc,et⟩
  ·cases aj
  ·cases aj;exact bp
 have az:((l.length:Int)-1)=((l.length-1:Nat):Int):=by omega
 have a6:(((l.length-1:Nat):Int))<(l.length:Int):=by omega
 have b7:(((l.length-1:Nat):Int))≤(cap:Int):=by omega
 have fh:(l.length:Int)≤1000000:=by omega
 rw[e4];have aV:Hid (h' (w.setCell ⟨R,0,none⟩ (.slice (some ⟨g,0,none⟩) (l.length-1) cap)) B R (.slice (some ⟨g,0,none⟩) (l.length-1) cap) (l.take (l.length-1))∧Two w (w.setCell ⟨R,0,none⟩ (.slice (some ⟨g,0,none⟩) (l.length-1) cap)) (some g) R):=by
  have bQ:g≠R:=fun e=>h.far (by rw[←e];rfl);have aL:cn w B (.slice (some ⟨g,0,none⟩) (l.length-1) cap) (l.take (l.length-1)):=by
   have:=Z2 (m:=l.length-1) h.own (by omega);rw[←List.map_take]at this;unfold cn;rw[List.length_take,Nat.min_eq_left (by omega)];exact this
  exact hid ⟨⟨h.box.aP 0 _,aL.vY (fun e=>bQ (by have:=Option.some.inj e;exact this)) _,fun e=>bQ (Option.some.inj e),h.low⟩,(Two.refl w (some g) R).aP 0 _⟩
 clear h af e4 aq;generalize l.length=n at*;generalize l.take (n-1)=lt at*;generalize hm:n-1=m at*;have cp:=hid hm;clear hm;go_enter func237,ntmps237
 go_wp2_with fail
 go_ret;exact⟨rfl,aV.out.1,aV.out.2⟩
theorem ahX (R:Nat) (w:World) (ag:Option String):(receiverAt 176 (.val (.pointer (some ⟨R,0,none⟩))) false ag).run prog w=(loadVar 177 ⟨R,0,none⟩).run prog w:=by
 cases ag
 ·kernel_rfl
 ·kernel_rfl
theorem Q9 {s:String} {f:FuncId} (F R:Nat) (v:Value) (w:World) (ah:w.cell? ⟨R,0,none⟩=some v) (a6:((prog.info? 176).bind fun m=>(m.methods.find? (fun x:Go.Method=>x.name==s)).map fun m=>(m.path.toList,m.func))=some ([],some (f,false))):(method (F+1) 176 (.pointer (some ⟨R,0,none⟩)) s).run prog w= .ok (f,v) w:=by
 obtain⟨m,fh,hr⟩:=Option.bind_eq_some_iff.1 a6;obtain⟨m2,sH,sI⟩:=Option.map_eq_some_iff.1 hr;simp only[Prod.mk.injEq]at sI;obtain⟨sI,OZ⟩:=sI;have OX:(loadVar 177 ⟨R,0,none⟩).run prog w= .ok v w:=by simp[go_sem,ah]
 unfold method;simp[Sem.run_bind,typeInfo,go_sem,fh,sH,sI,OZ,follow];rw[ahX,OX];rfl
theorem E2 (F R:Nat) (v:Value) (w:World) (ah:w.cell? ⟨R,0,none⟩=some v):(method (F+1) 176 (.pointer (some ⟨R,0,none⟩)) "Less").run prog w= .ok (236,v) w:=by
 have a6:((prog.info? 176).bind fun m=>(m.methods.find? (fun x:Go.Method=>x.name== "Less")).map fun m=>(m.path.toList,m.func))=some ([],some (236,false)):=by kernel_rfl
 exact Q9 F R v w ah a6
theorem Zg (F R:Nat) (v:Value) (w:World) (ah:w.cell? ⟨R,0,none⟩=some v):(method (F+1) 176 (.pointer (some ⟨R,0,none⟩)) "Len").run prog w= .ok (73,v) w:=by
 have a6:((prog.info? 176).bind fun m=>(m.methods.find? (fun x:Go.Method=>x.name== "Len")).map fun m=>(m.path.toList,m.func))=some ([],some (73,false)):=by kernel_rfl
 exact Q9 F R v w ah a6
theorem Aw (F R:Nat) (v:Value) (w:World) (ah:w.cell? ⟨R,0,none⟩=some v):(method (F+1) 176 (.pointer (some ⟨R,0,none⟩)) "Swap").run prog w= .ok (239,v) w:=by
 have a6:((prog.info? 176).bind fun m=>(m.methods.find? (fun x:Go.Method=>x.name== "Swap")).map fun m=>(m.path.toList,m.func))=some ([],some (239,false)):=by kernel_rfl
 exact Q9 F R v w ah a6
theorem agP (F R:Nat) (w:World):(method (F+1) 176 (.pointer (some ⟨R,0,none⟩)) "Push").run prog w= .ok (238,.pointer (some ⟨R,0,none⟩)) w:=by kernel_rfl
theorem agO (F R:Nat) (w:World):(method (F+1) 176 (.pointer (some ⟨R,0,none⟩)) "Pop").run prog w= .ok (237,.pointer (some ⟨R,0,none⟩)) w:=by kernel_rfl
theorem h'.cell {w:World} {B R:Nat} {v:Value} {l:List Int} (h:h' w B R v l):w.cell? ⟨R,0,none⟩=some v:=h.box.cell 0
theorem h'.row {w:World} {B R g cap n:Nat} {l:List Int} (h:h' w B R (.slice (some ⟨g,0,none⟩) n cap) l):∃cur,ao w g 3 cur∧l.length=n∧n≤cap∧cap≤Go.maxLen∧cur.size=cap∧B≤g∧cur.toList.take n=l.map (Value.int .i64)∧∀i,i<l.length→cur[i]?=some (.int .i64 (c4 l i)):=by
 rcases h.own.2 with⟨aj,_⟩|⟨hR,oq,cur,aj,ae,aJ,bp,eJ,kc,et⟩
 ·cases aj
 ·simp only[Value.slice.injEq,Option.some.injEq,Addr.mk.injEq,and_true]at aj;obtain⟨rfl,rfl,rfl⟩:=aj;refine⟨cur,aJ,rfl,bp,eJ,by omega,ae,by rw[Nat.mul_one]at et;exact et,fun i aE=> ?_⟩;have:=congrArg (fun q=>q[i]?) et;simp only[Nat.mul_one]at this;rw[List.getElem?_take_of_lt aE,List.getElem?_map,Array.getElem?_toList,a8 aE]at this;unfold c4;rw[this,a8 aE];rfl
theorem h'.swap {w w':World} {B R g cap n i j:Nat} {l:List Int} {cur:Array Value} (h:h' w B R (.slice (some ⟨g,0,none⟩) n cap) l) (aU:ao w g 3 cur) (aE:i<l.length) (aB:j<l.length)
  (I:ao w' g 3 ((cur.setIfInBounds i (.int .i64 (c4 l j))).setIfInBounds j (.int .i64 (c4 l i)))) (U:w.grownBy w' (some g)):h' w' B R (.slice (some ⟨g,0,none⟩) n cap) (mO l i j):=by
 obtain⟨OJ,GY,aA,cx,fE,yk,Eh,Hl,oX⟩:=h.row;have e:OJ=cur:=by
  have ae:w.heap[g]?=some (.cells OJ 3 (0,0)):=GY;have aJ:w.heap[g]?=some (.cells cur 3 (0,0)):=aU;rw[ae]at aJ;simpa using aJ
 subst e;have bQ:g≠R:=fun e=>h.far (by rw[←e];rfl);refine⟨(U.block R h.box.lt (fun e=>bQ (by have:=Option.some.inj e;exact this.symm))).trans h.box,⟨by rw[List.length_map,Nat.mul_one],.inr ⟨g,cap,_,?_,Eh,I,by rw[oI];omega,fE,by simp;omega,?_⟩⟩,h.far,h.low⟩
 ·rw[oI,aA]
 ·rw[oI,Nat.mul_one];apply List.ext_getElem?;intro k;by_cases aa:k<l.length
  ·rw[List.getElem?_take_of_lt aa,List.getElem?_map,Array.getElem?_toList,Array.getElem?_setIfInBounds,Array.getElem?_setIfInBounds];unfold mO;rw[List.getElem?_set,List.getElem?_set,List.length_set];have:=oX k aa;have w8:k<OJ.size:=by omega
   by_cases az:j=k
   ·subst az;simp[aB,w8]
   ·by_cases a6:i=k
    ·subst a6;simp[az,aE,w8]
    ·simp only[az,a6,if_false];rw[this];unfold c4;rw[a8 aa];rfl
  ·rw[List.getElem?_take_eq_none (by omega),List.getElem?_eq_none (by rw[List.length_map,oI];omega)]
theorem XF (g cap n:Nat) (i j:Nat) (py oc:Int) (bC:py=i) (vq:oc=j) (a b:Int) (w:World) (aE:i<n) (aB:j<n) (ai:g<w.heap.size) (aZ:w.cell? ⟨g,i,none⟩=some (.int .i64 a)) (J:w.cell? ⟨g,j,none⟩=some (.int .i64 b)):
  Calls prog 236 #[.slice (some ⟨g,0,none⟩) n cap,py,oc] w fun e w'=>e= .returned (.bool (decide (a<b)))∧Kept w w':=by
 subst bC vq;exact ae5 g cap n i j a b w aE aB ai aZ J
theorem Qv (g cap n:Nat) (i j:Nat) (py oc:Int) (bC:py=i) (vq:oc=j) (cur:Array Value) (a b:Int) (w:World) (aE:i<n) (aB:j<n) (aU:ao w g 3 cur) (aZ:cur[i]?=some (.int .i64 a)) (J:cur[j]?=some (.int .i64 b)):
  Calls prog 239 #[.slice (some ⟨g,0,none⟩) n cap,py,oc] w fun e w'=>e= .returned (.tuple #[])∧ao w' g 3 ((cur.setIfInBounds i b).setIfInBounds j a)∧w.grownBy w' (some g):=by
 subst bC vq;exact afC g cap n i j cur a b w aE aB aU aZ J
theorem h'.kept {w w':World} {B R:Nat} {v:Value} {l:List Int} (h:h' w B R v l) (aa:Kept w w'):h' w' B R v l:=by
 refine⟨h.box.kept aa,⟨h.own.1,?_⟩,h.far,h.low⟩;rcases h.own.2 with U|⟨g,cap,cur,ay,J,ai,ae⟩
 ·exact .inl U
 ·have aJ:ao w g 3 cur:=ai;exact .inr ⟨g,cap,cur,ay,J,aJ.kept aa,ae⟩
theorem hup (B R g cap:Nat) (l:List Int) (ij A1:Nat) (w:World) (h:h' w B R (.slice (some ⟨g,0,none⟩) l.length cap) l) (aB:ij<l.length) (hF:ij<A1) (aq:l.length≤1000000):
  Calls prog 100 #[.iface 176 (.pointer (some ⟨R,0,none⟩)),ij] w fun e w'=>e= .returned (.tuple #[])∧h' w' B R (.slice (some ⟨g,0,none⟩) l.length cap) (uD A1 l ij)∧Two w w' (some g) R:=by
 obtain⟨T,bl⟩:∃T,uD A1 l ij=T:=⟨_,rfl⟩;rw[bl];have ch:=hid bl;have tj:=hid h;clear bl h;go_enter func100,ntmps100
 go_wp2
 go_loopg [1] A1 (fun k y wr=>∃(j:Nat) (a7:List Int),y= .int .i64 j∧j<l.length∧j<k∧a7.length=l.length∧h' wr B R (.slice (some ⟨g,0,none⟩) l.length cap) a7∧Two w wr (some g) R∧uD k a7 j=T)
 case atStart=>exact⟨ij,l,rfl,aB,hF,rfl,tj.out,Two.refl _ _ _,ch.out⟩
 case round=>
  obtain⟨j,a7,rfl,aB,aa,sR,bC,kB,aG⟩:=hrel;obtain⟨F,rfl⟩:∃F,gk=F+1:=⟨gk-1,by omega⟩;have b5:=bC.box.cell 0;have cA:=bC.box.lt;simp only[List.getElem?_toArray,List.getElem?_cons_zero]at b5;rw[uD]at aG;by_cases aj:j=0
  ·subst aj;go_wp2_with fail
   go_end0
   rw[if_pos (.inl trivial)]at aG;exact⟨rfl,aG▸bC,kB⟩
  ·obtain⟨i,aE⟩:∃i,i=(j-1)/2:=⟨_,rfl⟩;have D9:((j-1:Nat):Int)/2=i:=by omega
   have bQ:¬((j-1:Nat):Int)/2=j:=by omega
   have Xt:i<j:=by omega
   obtain⟨cur,aU,-,cx,-,-,-,-,oX⟩:=bC.row;have ai:=aU.lt;have ci:=oX i (by omega);have wN:=oX j (by omega);have Lw:=(aU.cell i).trans ci;have EW:=(aU.cell j).trans wN;have e7:=hid (fun w1 oc (vq:oc=(i:Int)) (aa:Kept wr w1)=>XF g cap l.length j i j oc rfl vq (c4 a7 j) (c4 a7 i) w1 aB (by omega) (bd ai aa.size) (aa.ad ai EW) (aa.ad ai Lw));have hm:=(E2 432 R _ wr bC.cell:(method 433 _ _ _).run _ _=_);have zp:=hid (fun w1 oc (vq:oc=(i:Int)) (aa:Kept wr w1)=>Qv g cap l.length i j oc _ vq rfl cur (c4 a7 i) (c4 a7 j) w1 (by omega) aB (aU.kept aa) ci wN);have eB:=hid bC;have aI:=hid aG;have jA:=hid kB;have Wg:((j:Int)-1)/2=i:=by omega
   have cg:=hid aU;have tq:=hid Wg;clear bC aG kB aU oX ci wN Lw EW Wg;by_cases aD:c4 a7 j<c4 a7 i
   ·rw[decide_eq_true aD]at e7;go_wp2_with (first|(go_at_call 236;refine (e7.out _ _ (by omega) (aQ _)).mono ?_;rintro e w1 ⟨rfl,ak⟩;have ax:=(Aw 432 R _ w1 (eB.out.kept ak).cell:(method 433 _ _ _).run _ _=_);have bB:=hid ak;clear ak)|(go_at_call 239;refine (zp.out _ _ (by omega) bB.out).mono ?_;rintro e w2 ⟨rfl,g1,g2⟩;have dO:=hid (And.intro g1 g2);clear g1 g2))
    obtain⟨g1,g2⟩:=dO.out;have BR:=(eB.out.kept bB.out).swap (cg.out.kept bB.out) (by omega) (by omega) g1 g2;have z1:=(jA.out.trans (Two.iZ (a:=some g) (r:=R) bB.out) (.inl rfl)).trans (Two.uv (r:=R) g2) (.inl rfl);have eF:uD F (mO a7 i j) i=T:=by
     have:=aI.out;rw[←aE,if_neg (by omega)]at this;exact this
    go_roundg F
    case measure=>omega
    case rel=>exact⟨i,mO a7 i j,by rw[tq.out],by omega,by omega,by rw[oI];exact sR,BR,z1,eF⟩
   ·rw[decide_eq_false aD]at e7;go_wp2_with (go_at_call 236;refine (e7.out _ _ (by omega) (aQ _)).mono ?_;rintro e w1 ⟨rfl,ak⟩;have bB:=hid ak;clear ak)
    go_end0
    have eF:a7=T:=by
     have:=aI.out;rw[←aE,if_pos (by omega)]at this;exact this
    exact⟨rfl,eF▸eB.out.kept bB.out,jA.out.trans (Two.iZ (a:=some g) (r:=R) bB.out) (.inl rfl)⟩
def SI (e:Ending):Prop:=∃b,e= .returned (.bool b)
theorem aeV (B R g cap n:Nat) (l:List Int) (w:World) (h:h' w B R (.slice (some ⟨g,0,none⟩) l.length cap) l) (aA:n<l.length) (aq:l.length≤1000000):
  Calls prog 101 #[.iface 176 (.pointer (some ⟨R,0,none⟩)),(),n] w fun e w'=>SI e∧h' w' B R (.slice (some ⟨g,0,none⟩) l.length cap) (rC l.length l 0 n)∧Two w w' (some g) R:=by
 obtain⟨T,bl⟩:∃T,rC l.length l 0 n=T:=⟨_,rfl⟩;rw[bl];have ch:=hid bl;have tj:=hid h;clear bl h;have o1:(n:Int)≤1000000:=by omega
 go_enter func101,ntmps101
 go_wp2
 go_loopg [7] l.length (fun k y wr=>∃(i:Nat) (a7:List Int),y= .int .i64 i∧i≤n∧n<i+k∧a7.length=l.length∧h' wr B R (.slice (some ⟨g,0,none⟩) l.length cap) a7∧Two w wr (some g) R∧rC k a7 i n=T)
 case atStart=>exact⟨0,l,rfl,Nat.zero_le _,by omega,rfl,tj.out,Two.refl _ _ _,ch.out⟩
 case round=>
  obtain⟨i,a7,rfl,aE,aa,sR,bC,kB,aG⟩:=hrel;obtain⟨F,rfl⟩:∃F,gk=F+1:=⟨gk-1,by omega⟩;have b5:=bC.box.cell 0;have cA:=bC.box.lt;simp only[List.getElem?_toArray,List.getElem?_cons_zero]at b5;rw[rC]at aG;have Hw:(i:Int)≤1000000:=by omega
  obtain⟨cur,aU,-,cx,-,-,-,-,oX⟩:=bC.row;have ai:=aU.lt;have e7:=hid (fun w1 (a b:Nat) (py oc:Int) (r:Bool) (l7:py=a) (vq:oc=b) (aZ:a<l.length) (J:b<l.length) (aH:decide (c4 a7 a<c4 a7 b)=r) (aa:Kept wr w1)=>(aH▸XF g cap l.length a b py oc l7 vq (c4 a7 a) (c4 a7 b) w1 aZ J (bd ai aa.size) (aa.ad ai ((aU.cell a).trans (oX a (by omega)))) (aa.ad ai ((aU.cell b).trans (oX b (by omega)))):
   Calls prog 236 #[.slice (some ⟨g,0,none⟩) l.length cap,py,oc] w1 fun e w'=>e= .returned (.bool r)∧Kept w1 w'))
  have zp:=hid (fun w1 (a b:Nat) (py oc:Int) (l7:py=a) (vq:oc=b) (aZ:a<l.length) (J:b<l.length) (aa:Kept wr w1)=>Qv g cap l.length a b py oc l7 vq cur (c4 a7 a) (c4 a7 b) w1 aZ J (aU.kept aa) (oX a (by omega)) (oX b (by omega)));have hm:=(E2 432 R _ wr bC.cell:(method 433 _ _ _).run _ _=_);have eB:=hid bC;have cg:=hid aU;have jA:=hid kB;have aI:=hid aG;clear bC aG kB aU oX;by_cases aK:n≤2*i+1
  ·have BP:(n:Int)≤2*i+1:=by omega
   have eF:a7=T:=by
    have:=aI.out;rwa [if_pos (.inl aK)]at this
   clear hm b5;go_wp2_with fail
   go_ret;exact⟨⟨_,rfl⟩,eF▸eB.out,jA.out⟩
  ·have BP:¬(n:Int)≤2*i+1:=by omega
   have VX:¬((2*(i:Int)+1)<0):=by omega
   rcases (show (2*i+2<n∧c4 a7 (2*i+2)<c4 a7 (2*i+1))∨(2*i+2<n∧¬c4 a7 (2*i+2)<c4 a7 (2*i+1))∨¬2*i+2<n by omega)with⟨g1,g2⟩|⟨g1,g2⟩|g1
   ·have ib:(2*(i:Int)+1+1)<n:=by omega
    have mD:tP a7 i n=(2*i+2):=by unfold tP;rw[if_pos ⟨g1,g2⟩]
    by_cases aD:c4 a7 (2*i+2)<c4 a7 i
    ·have cB:=hid (decide_eq_true aD);clear aD;go_wp2_with (first|(go_at_call 236;refine (e7.out _ (2*i+2) (2*i+1) _ _ true (by omega) (by omega) (by omega) (by omega) (decide_eq_true g2) (aQ _)).mono ?_;rintro e w1 ⟨rfl,ak⟩;have iJ:=(E2 432 R _ w1 (eB.out.kept ak).cell:(method 433 _ _ _).run _ _=_);have bB:=hid ak;clear ak)|(go_at_call 236;refine (e7.out _ (2*i+2) i _ _ true (by omega) (by omega) (by omega) (by omega) cB.out bB.out).mono ?_;rintro e w2 ⟨rfl,a'⟩;have vB:=(Aw 432 R _ w2 (eB.out.kept (Kept.trans bB.out a')).cell:(method 433 _ _ _).run _ _=_);have bR:=hid a';clear a')|(go_at_call 239;refine (zp.out _ i (2*i+2) _ _ (by omega) (by omega) (by omega) (by omega) (bB.out.trans bR.out)).mono ?_;rintro e cw ⟨rfl,g1,g2⟩;have dO:=hid (And.intro g1 g2);clear g1 g2))
     obtain⟨g1,g2⟩:=dO.out;have BR:=(eB.out.kept (bB.out.trans bR.out)).swap (cg.out.kept (bB.out.trans bR.out)) (by omega) (by omega) g1 g2;have z1:=(jA.out.trans (Two.iZ (a:=some g) (r:=R) (bB.out.trans bR.out)) (.inl rfl)).trans (Two.uv (r:=R) g2) (.inl rfl);have eF:rC F (mO a7 i (2*i+2)) (2*i+2) n=T:=by
      have:=aI.out;have aD:=of_decide_eq_true cB.out;rwa [if_neg (by rw[mD];omega),mD]at this
     go_roundg F
     case measure=>omega
     case rel=>exact⟨(2*i+2),mO a7 i (2*i+2),by go_num,by omega,by omega,by rw[oI];exact sR,BR,z1,eF⟩
    ·have cB:=hid (decide_eq_false aD);clear aD;go_wp2_with (first|(go_at_call 236;refine (e7.out _ (2*i+2) (2*i+1) _ _ true (by omega) (by omega) (by omega) (by omega) (decide_eq_true g2) (aQ _)).mono ?_;rintro e w1 ⟨rfl,ak⟩;have iJ:=(E2 432 R _ w1 (eB.out.kept ak).cell:(method 433 _ _ _).run _ _=_);have bB:=hid ak;clear ak)|(go_at_call 236;refine (e7.out _ (2*i+2) i _ _ false (by omega) (by omega) (by omega) (by omega) cB.out bB.out).mono ?_;rintro e w2 ⟨rfl,a'⟩;have vB:=(Aw 432 R _ w2 (eB.out.kept (Kept.trans bB.out a')).cell:(method 433 _ _ _).run _ _=_);have bR:=hid a';clear a'))
     have eF:a7=T:=by
      have:=aI.out;have aD:=of_decide_eq_false cB.out;rwa [if_pos (by rw[mD];omega)]at this
     go_ret;exact⟨⟨_,rfl⟩,eF▸eB.out.kept (bB.out.trans bR.out),jA.out.trans (Two.iZ (a:=some g) (r:=R) (bB.out.trans bR.out)) (.inl rfl)⟩
   ·have ib:(2*(i:Int)+1+1)<n:=by omega
    have mD:tP a7 i n=(2*i+1):=by unfold tP;rw[if_neg (fun h=>g2 h.2)]
    by_cases aD:c4 a7 (2*i+1)<c4 a7 i
    ·have cB:=hid (decide_eq_true aD);clear aD;go_wp2_with (first|(go_at_call 236;refine (e7.out _ (2*i+2) (2*i+1) _ _ false (by omega) (by omega) (by omega) (by omega) (decide_eq_false g2) (aQ _)).mono ?_;rintro e w1 ⟨rfl,ak⟩;have iJ:=(E2 432 R _ w1 (eB.out.kept ak).cell:(method 433 _ _ _).run _ _=_);have bB:=hid ak;clear ak)|(go_at_call 236;refine (e7.out _ (2*i+1) i _ _ true (by omega) (by omega) (by omega) (by omega) cB.out bB.out).mono ?_;rintro e w2 ⟨rfl,a'⟩;have vB:=(Aw 432 R _ w2 (eB.out.kept (Kept.trans bB.out a')).cell:(method 433 _ _ _).run _ _=_);have bR:=hid a';clear a')|(go_at_call 239;refine (zp.out _ i (2*i+1) _ _ (by omega) (by omega) (by omega) (by omega) (bB.out.trans bR.out)).mono ?_;rintro e cw ⟨rfl,g1,g2⟩;have dO:=hid (And.intro g1 g2);clear g1 g2))
     obtain⟨g1,g2⟩:=dO.out;have BR:=(eB.out.kept (bB.out.trans bR.out)).swap (cg.out.kept (bB.out.trans bR.out)) (by omega) (by omega) g1 g2;have z1:=(jA.out.trans (Two.iZ (a:=some g) (r:=R) (bB.out.trans bR.out)) (.inl rfl)).trans (Two.uv (r:=R) g2) (.inl rfl);have eF:rC F (mO a7 i (2*i+1)) (2*i+1) n=T:=by
      have:=aI.out;have aD:=of_decide_eq_true cB.out;rwa [if_neg (by rw[mD];omega),mD]at this
     go_roundg F
     case measure=>omega
     case rel=>exact⟨(2*i+1),mO a7 i (2*i+1),by go_num,by omega,by omega,by rw[oI];exact sR,BR,z1,eF⟩
    ·have cB:=hid (decide_eq_false aD);clear aD;go_wp2_with (first|(go_at_call 236;refine (e7.out _ (2*i+2) (2*i+1) _ _ false (by omega) (by omega) (by omega) (by omega) (decide_eq_false g2) (aQ _)).mono ?_;rintro e w1 ⟨rfl,ak⟩;have iJ:=(E2 432 R _ w1 (eB.out.kept ak).cell:(method 433 _ _ _).run _ _=_);have bB:=hid ak;clear ak)|(go_at_call 236;refine (e7.out _ (2*i+1) i _ _ false (by omega) (by omega) (by omega) (by omega) cB.out bB.out).mono ?_;rintro e w2 ⟨rfl,a'⟩;have vB:=(Aw 432 R _ w2 (eB.out.kept (Kept.trans bB.out a')).cell:(method 433 _ _ _).run _ _=_);have bR:=hid a';clear a'))
     have eF:a7=T:=by
      have:=aI.out;have aD:=of_decide_eq_false cB.out;rwa [if_pos (by rw[mD];omega)]at this
     go_ret;exact⟨⟨_,rfl⟩,eF▸eB.out.kept (bB.out.trans bR.out),jA.out.trans (Two.iZ (a:=some g) (r:=R) (bB.out.trans bR.out)) (.inl rfl)⟩
   ·have ib:¬(2*(i:Int)+1+1)<n:=by omega
    have mD:tP a7 i n=(2*i+1):=by unfold tP;rw[if_neg (fun h=>g1 h.1)]
    by_cases aD:c4 a7 (2*i+1)<c4 a7 i
    ·have cB:=hid (decide_eq_true aD);clear aD;go_wp2_with (first|(go_at_call 236;refine (e7.out _ (2*i+1) i _ _ true (by omega) (by omega) (by omega) (by omega) cB.out (aQ _)).mono ?_;rintro e w2 ⟨rfl,a'⟩;have vB:=(Aw 432 R _ w2 (eB.out.kept (Kept.trans (aQ _) a')).cell:(method 433 _ _ _).run _ _=_);have bR:=hid a';clear a')|(go_at_call 239;refine (zp.out _ i (2*i+1) _ _ (by omega) (by omega) (by omega) (by omega) bR.out).mono ?_;rintro e cw ⟨rfl,g1,g2⟩;have dO:=hid (And.intro g1 g2);clear g1 g2))
     obtain⟨g1,g2⟩:=dO.out;have BR:=(eB.out.kept bR.out).swap (cg.out.kept bR.out) (by omega) (by omega) g1 g2;have z1:=(jA.out.trans (Two.iZ (a:=some g) (r:=R) bR.out) (.inl rfl)).trans (Two.uv (r:=R) g2) (.inl rfl);have eF:rC F (mO a7 i (2*i+1)) (2*i+1) n=T:=by
      have:=aI.out;have aD:=of_decide_eq_true cB.out;rwa [if_neg (by rw[mD];omega),mD]at this
     go_roundg F
     case measure=>omega
     case rel=>exact⟨(2*i+1),mO a7 i (2*i+1),by go_num,by omega,by omega,by rw[oI];exact sR,BR,z1,eF⟩
    ·have cB:=hid (decide_eq_false aD);clear aD;go_wp2_with (first|(go_at_call 236;refine (e7.out _ (2*i+1) i _ _ false (by omega) (by omega) (by omega) (by omega) cB.out (aQ _)).mono ?_;rintro e w2 ⟨rfl,a'⟩;have vB:=(Aw 432 R _ w2 (eB.out.kept (Kept.trans (aQ _) a')).cell:(method 433 _ _ _).run _ _=_);have bR:=hid a';clear a'))
     have eF:a7=T:=by
      have:=aI.out;have aD:=of_decide_eq_false cB.out;rwa [if_pos (by rw[mD];omega)]at this
     go_ret;exact⟨⟨_,rfl⟩,eF▸eB.out.kept bR.out,jA.out.trans (Two.iZ (a:=some g) (r:=R) bR.out) (.inl rfl)⟩
end Go.Proofs.YtobpgndkciofhaaGreatDoor
