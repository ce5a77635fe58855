import Derived.Test.YtobpgndkciofhaaGreatDoorAG
import Derived.Test.YtobpgndkciofhaaGreatDoorZ
set_option linter.all false
namespace Go.Proofs.YtobpgndkciofhaaGreatDoor
open Go.RowKit Go.Proofs.Tryz
open Go.Lib (hid)
set_option maxRecDepth 100000
set_option maxHeartbeats 32000000
def vn (A B:cZ) (sc d:Int) (c:h9) (w:World) (e:Ending) (w':World):Prop:=∃(x:kS) (R:Option Addr) (n ky:Nat) (k:Int),e= .returned (.tuple #[Ct x (.slice R n ky),k])∧(k=0↔kL A B sc d)∧(k=0→x=lh A B sc d c∧n=(vW A B sc d).length)∧Kept w w'
theorem vn.no {A B:cZ} {sc d k:Int} {c:h9} {w w':World} (h:k≠0) (au:¬kL A B sc d) (aa:Kept w w'):vn A B sc d c w (.returned (.tuple #[.agg #[(),(),(),(),(),(),(),(),aR],k])) w':=
 ⟨⟨⟨0,0,0⟩,⟨0,0,0⟩,0,0⟩,none,0,0,k,rfl,iff_of_false h au,fun e=>absurd e h,aa⟩
theorem Cu {w X:World} {g T:Nat} {a0 cE a2 a3 a4 a5 jE sB Bv:Value} (B:ao X g T #[a0,cE,a2,a3,a4,a5,jE,sB,Bv]) (aa:Kept w X) (ai:w.heap.size≤g) (eP bY bc eh dy c9 eE mx fv:Value):
  ao (((((((((X.setCell ⟨g,0,none⟩ eP).setCell ⟨g,1,none⟩ bY).setCell ⟨g,2,none⟩ bc).setCell ⟨g,3,none⟩ eh).setCell ⟨g,4,none⟩ dy).setCell ⟨g,5,none⟩ c9).setCell ⟨g,6,none⟩ eE).setCell ⟨g,7,none⟩ mx).setCell ⟨g,8,none⟩ fv) g T #[eP,bY,bc,eh,dy,c9,eE,mx,fv]∧
  Kept w (((((((((X.setCell ⟨g,0,none⟩ eP).setCell ⟨g,1,none⟩ bY).setCell ⟨g,2,none⟩ bc).setCell ⟨g,3,none⟩ eh).setCell ⟨g,4,none⟩ dy).setCell ⟨g,5,none⟩ c9).setCell ⟨g,6,none⟩ eE).setCell ⟨g,7,none⟩ mx).setCell ⟨g,8,none⟩ fv):=by
 refine⟨?_,?_⟩
 ·have:=((((((((B.aP 0 eP).aP 1 bY).aP 2 bc).aP 3 eh).aP 4 dy).aP 5 c9).aP 6 eE).aP 7 mx).aP 8 fv;simpa using this
 ·repeat refine Kept.setCell ?_ (by simp only;omega) _
  exact aa
theorem afS {w X:World} {g T:Nat} {a0 cE a2 a3 a4 a5 jE sB Bv:Value} (B:ao X g T #[a0,cE,a2,a3,a4,a5,jE,sB,Bv]) (aa:Kept w X) (ai:w.heap.size≤g) (k e n c:Int):
  ao ((((X.setCell ⟨g,0,none⟩ k).setCell ⟨g,1,none⟩ e).setCell ⟨g,2,none⟩ n).setCell ⟨g,6,none⟩ c) g T #[k,e,n,a3,a4,a5,c,sB,Bv]∧
  Kept w ((((X.setCell ⟨g,0,none⟩ k).setCell ⟨g,1,none⟩ e).setCell ⟨g,2,none⟩ n).setCell ⟨g,6,none⟩ c):=by
 refine⟨?_,?_⟩
 ·have:=(((B.aP 0 k).aP 1 e).aP 2 n).aP 6 c;simpa using this
 ·repeat refine Kept.setCell ?_ (by simp only;omega) _
  exact aa
theorem afT {w X:World} {g T:Nat} {a0 cE a2 a3 a4 a5 jE sB Bv:Value} (B:ao X g T #[a0,cE,a2,a3,a4,a5,jE,sB,Bv]) (aa:Kept w X) (ai:w.heap.size≤g) (k e n c:Int):
  ao ((((X.setCell ⟨g,3,none⟩ k).setCell ⟨g,4,none⟩ e).setCell ⟨g,5,none⟩ n).setCell ⟨g,7,none⟩ c) g T #[a0,cE,a2,k,e,n,jE,c,Bv]∧
  Kept w ((((X.setCell ⟨g,3,none⟩ k).setCell ⟨g,4,none⟩ e).setCell ⟨g,5,none⟩ n).setCell ⟨g,7,none⟩ c):=by
 refine⟨?_,?_⟩
 ·have:=(((B.aP 3 k).aP 4 e).aP 5 n).aP 7 c;simpa using this
 ·repeat refine Kept.setCell ?_ (by simp only;omega) _
  exact aa
theorem ahl {w:World} {g T:Nat} {a0 cE a2 a3 a4 a5 jE sB:Int} {A:Option Addr} {n c o:Nat} {s:ByteArray} (B:ao w g T #[a0,cE,a2,a3,a4,a5,jE,sB,.slice A n c]) (h:w.cell? ⟨g,o,none⟩=some (.string s)):False:=by
 rw[B.cell o]at h;rcases o with _|_|_|_|_|_|_|_|_|o<;>simp at h
theorem Zx {w:World} {t:TypeId} {b n g T:Nat} {F:Value→Option Value} {cs:Array Value} (br:gb t b n F w) (aU:ao w g T cs):b≠g:=by
 rintro rfl;obtain⟨D,⟨es,c,I,-⟩,-⟩:=br;have:=I.symm.trans aU
 cases this
theorem aew {α:Type} (p:α→Bool) {l:List α} {i:Nat} {x:α} (h:l[i]?=some x):(l.take (i+1)).filter p=(l.take i).filter p++(if p x=true then [x]else []):=by
 rw[List.take_add_one,h,Option.toList_some,List.filter_append]
 cases hp:p x<;>simp[hp]
theorem nM.bool {F:Value→Option Value} {S:ByteArray→ByteArray→Prop} (h:nM F S) (a b:ByteArray):∃q:Bool,(F (xj a b)).getD (.bool false)= .bool q∧(q=true↔S a b):=by
 by_cases ax:S a b
 ·exact⟨true,by rw[(h a b).1 ax];rfl,iff_of_true rfl ax⟩
 ·exact⟨false,by rw[(h a b).2 ax];rfl,iff_of_false (by simp) ax⟩
theorem ahZ {A B:cZ} {sc d:Int} {x:jV} {bD gG:Bool} (aZ:bD=true↔rq A (fV A sc) d x.sc x.dF) (J:gG=true↔rq B (fV B sc) d x.sc x.dF) (bc bY:Bool) (U:bc=true↔x.k≠2) (I:bY=true↔x.k≠1):uy A B sc d x=(bc&&bD||bY&&gG):=by
 rw[Bool.eq_iff_iff,aai];unfold N3;rw[←aZ,←J,←U,←I];simp
theorem ad5 {w1 bG dV:World} {g T:Nat} {a0 cE a2 a3 a4 a5 jE sB v v6:Value} {bh:List jV} {x:jV} {o:Obj} (bl:Two w1 bG none g) (ai:g<w1.heap.size) (aU:ao bG g T #[a0,cE,a2,a3,a4,a5,jE,sB,v]) (ar:c3 bG w1.heap.size 86 kZ 3 v bh)
  (aO:dV.ownsRow w1.heap.size 86 3 v6 (bh.length+1) (bh.flatMap kZ++kZ x)) (aN:(bG.alloc o).grownBy dV v.ownBlock) (dA:v6.ownBlock=v.ownBlock∨v6.ownBlock=some (bG.alloc o).heap.size):
  ao dV g T #[a0,cE,a2,a3,a4,a5,jE,sB,v]∧Two w1 (dV.setCell ⟨g,8,none⟩ v6) none g∧ao (dV.setCell ⟨g,8,none⟩ v6) g T #[a0,cE,a2,a3,a4,a5,jE,sB,v6]∧c3 (dV.setCell ⟨g,8,none⟩ v6) w1.heap.size 86 kZ 3 v6 (bh++[x]):=by
 have bQ:v.ownBlock≠some g:=fun e=>by have:=(World.ownsRow.lt ar g e).1;omega
 have aD:=aU.lt;have kd:=bl.size;have V2:ao dV g T #[a0,cE,a2,a3,a4,a5,jE,sB,v]:=(aN.block g (by simp;omega) (fun e=>bQ e.symm)).trans (aU.alloc o);have kB:=(bl.trans (Two.iZ ((aQ bG).alloc o)) (.inl rfl)).trans (Two.uv (r:=g) aN) (by
  cases ay:v.ownBlock with
  |none=>exact .inl rfl
  |some b=>exact .inr ⟨b,rfl,(World.ownsRow.lt ar b ay).1⟩)
 refine⟨V2,kB.aP 8 v6,?_,?_⟩
 ·have:=V2.aP 8 v6;simpa using this
 ·refine vX (ok:=fun b=>b≠g) (c3.snoc aO) (fun b _ J=>Below.heap_setCell dV ⟨g,8,none⟩ v6 b J) (fun b J e=> ?_);subst e;rcases dA with h|h
  ·exact bQ (h▸J)
  ·rw[h]at J;have:=Option.some.inj J;simp at this;omega
theorem ah9 {w X:World} {g T:Nat} {old cs:List Value} (B:ao X g T old.toArray) (aa:Kept w X) (ai:w.heap.size≤g) (aq:old.length=cs.length):ao (X.setCells g 0 cs) g T cs.toArray∧Kept w (X.setCells g 0 cs):=by
 obtain⟨I,U,ae,aJ⟩:=R0 g cs 0 X;refine⟨RZ cs [] old X B aq,⟨I.trans aa.os,U.trans aa.tape,ae.trans aa.output,by rw[aJ];exact aa.size,fun b J=> ?_⟩⟩;rw[Mh g b (by omega)];exact aa.block b J
theorem acW {w:World} {g T:Nat} {cs:List Value} (B:ao w g T cs.toArray):w.rangeAt g 0 cs:=fun j v ay=>by
 rw[Nat.zero_add,B.cell j];simpa using ay
theorem acX {w:World} {g T:Nat} {cs:List Value} (B:ao w g T cs.toArray):w.there g 0 cs.length:=fun j aB=>by
 rw[Nat.zero_add,B.cell j];refine⟨?_,B.frozen j⟩;simp[aB]
theorem adS (e_ fm bo bW:Value) (A B:cZ) (sc d:Int) (c:h9) (w:World) (aZ:gy w e_ A) (J:gy w fm B) (bC:ff w bo c.ins) (br:ld w bW c.mem) (fP:c.ins.length≤9223372036854775807) (nm:Mon w) (Ad:lv A.sc≤60) (Ae:lv B.sc≤60):
  Calls prog 15 #[e_,fm,sc,.agg #[c.d,bo,bW],d] w (vn A B sc d c w):=by
 have F4:=hid (fun w1 (h:Kept w w1)=>Q3 e_ A w1 (aZ.kept h));have Dm:=hid (fun w1 (h:Kept w w1)=>Q3 fm B w1 (J.kept h));unfold k1 at F4 Dm;have Js:=hid (fun w1 (h:Kept w w1)=>aiA e_ fm A B w1 (aZ.kept h) (J.kept h));unfold dE at Js;have xF:=hid (fun w1 (h:Kept w w1)=>YP e_ bo bW A sc d c w1 (aZ.kept h) (bC.kept h) (br.kept h) fP (nm.kept h));have xG:=hid (fun w1 (h:Kept w w1)=>YP fm bo bW B sc d c w1 (J.kept h) (bC.kept h) (br.kept h) fP (nm.kept h));unfold YO at xF xG;have lb:=hid (fun w1 (h:Kept w w1) (q:kL A B sc d)=>aaj e_ A sc d w1 (aZ.kept h) q.EZ.sc q.s7);have qj:=hid (fun w1 (h:Kept w w1) (q:kL A B sc d)=>aaj fm B sc d w1 (J.kept h) q.Aq.sc q.fz);unfold RV at lb qj;have xE:=hid (fun w1 (h:Kept w w1)=>U6 e_ fm A B w1 (aZ.kept h) (J.kept h) Ad Ae);unfold Kg at xE;have Be:=hid (ada aZ.ZJ J.ZJ);have zg:=hid (show (j2 A B).length≤120 from Nat.le_trans (ac9 A B) (by omega));obtain⟨c_,b4,b2,rfl,aj,I,U⟩:=aZ;obtain⟨pf,pF,rfl,-⟩:=aj;obtain⟨pj,pJ,rfl,-⟩:=I;obtain⟨sf,pH,rfl,-,XE,HT⟩:=U;obtain⟨c_,b4,b2,rfl,aj,I,U⟩:=J;obtain⟨pg,pG,rfl,-⟩:=aj;obtain⟨pk,pK,rfl,-⟩:=I;obtain⟨ph,pI,rfl,-⟩:=U;obtain⟨dS,gP,rfl,-⟩:=bC;obtain⟨eH,kY,rfl,-⟩:=br;have rk:=hid HT;obtain⟨dt,ins,mem⟩:=c;dsimp only at*;generalize A.bm.length=p2 at*;generalize A.tb.length=p4 at*;generalize lR:A.sc.length=jM at*;have n':=hid lR;generalize B.bm.length=p3 at*;generalize B.tb.length=ki at*;generalize B.sc.length=mK at*;generalize ins.length=b1 at*;generalize mem.length=ew at*;clear fP nm Ad Ae HT lR;go_enter func15,ntmps15
 go_upto_region 1 with fail
 generalize ar:(((w.alloc _).alloc _).alloc _).alloc _=W at*;obtain⟨aF,fB,e0,h1,gK⟩:=Kept.fh ar;clear ar;have cN:=hid aF;have mW:=hid (fun w1 (h:Kept W w1)=>fB.kept h);have q8:=hid (fun w1 (h:Kept W w1)=>e0.kept h);have y8:=hid (fun w1 (h:Kept W w1)=>h1.kept h);have wj:=hid (fun w1 (h:Kept W w1)=>gK.kept h);obtain⟨bJ,dP⟩:=fB.p;clear fB e0 h1 gK aF;by_cases aK:oR A
 case neg=>
  have au:=hid (show¬kL A B sc d from fun q=>aK q.EZ);have dW:=hid aK;clear aK;go_upto_region 2 with (go_at_call 24;refine (F4.out _ cN.out).mono ?_;rintro az w1 ⟨x,a,b,e,rfl,af,-,ak⟩;have rV:(x==0)=false:=(by have aj:x≠0:=fun h=>dW.out (af.1 h);simpa using aj);clear af;have gz:=wj.out _ ak;have l10:=gz.lt;have f10:=gz.frozen;have rA:=gz.cell;have bq:=hid (Cu gz (cN.out.trans ak) (by omega) () () () () () () () () aR);clear gz)
  go_wp2_with fail
  have cu:=bq.out.1.cell;exact bodyPost_ret (v:= .tuple #[.agg #[(),(),(),(),(),(),(),(),aR],.int .i64 1]) (by simp[results,results15,go_sem,cu]) rfl (vn.no (by decide) au.out bq.out.2)
 have dW:=hid aK;clear aK;by_cases aU:oR B
 case neg=>
  have au:=hid (show¬kL A B sc d from fun q=>aU q.Aq);have cg:=hid aU;clear aU;go_upto_region 2 with (first|(go_at_call_of 24 (Value.agg #[Value.slice pf p2 pF,Value.slice pj p4 pJ,Value.slice sf jM pH]);refine (F4.out _ cN.out).mono ?_;rintro az w1 ⟨x,a,b,e,rfl,af,ck,ak⟩;obtain rfl:=af.2 dW.out;obtain⟨rfl,rfl,rfl⟩:=ck rfl;clear af ck;have eE:=q8.out _ ak;have eQ:=eE.cell;have ev:=eE.lt;clear eE)|(go_at_call_of 24 (Value.agg #[Value.slice pg p3 pG,Value.slice pk ki pK,Value.slice ph mK pI]);refine (Dm.out _ (cN.out.trans ak)).mono ?_;rintro a6 w2 ⟨x,a,b,e,rfl,af,-,a'⟩;have rV:(x==0)=false:=(by have aj:x≠0:=fun h=>cg.out (af.1 h);simpa using aj);clear af;have gz:=wj.out _ (ak.trans a');have l10:=gz.lt;have f10:=gz.frozen;have rA:=gz.cell;have bq:=hid (Cu gz (cN.out.trans (ak.trans a')) (by omega) () () () () () () () () aR);clear gz))
  go_wp2_with fail
  have cu:=bq.out.1.cell;exact bodyPost_ret (v:= .tuple #[.agg #[(),(),(),(),(),(),(),(),aR],.int .i64 1]) (by simp[results,results15,go_sem,cu]) rfl (vn.no (by decide) au.out bq.out.2)
 have cg:=hid aU;clear aU;go_upto_region 3 with (first|(go_at_call_of 24 (Value.agg #[Value.slice pf p2 pF,Value.slice pj p4 pJ,Value.slice sf jM pH]);refine (F4.out _ cN.out).mono ?_;rintro az w1 ⟨x,a,b,e,rfl,af,ck,ak⟩;obtain rfl:=af.2 dW.out;obtain⟨rfl,rfl,rfl⟩:=ck rfl;clear af ck;have eE:=q8.out _ ak;have eQ:=eE.cell;have ev:=eE.lt;clear eE)|(go_at_call_of 24 (Value.agg #[Value.slice pg p3 pG,Value.slice pk ki pK,Value.slice ph mK pI]);refine (Dm.out _ (cN.out.trans ak)).mono ?_;rintro a6 w2 ⟨x,a,b,e,rfl,af,ck,a'⟩;obtain rfl:=af.2 cg.out;obtain⟨rfl,rfl,rfl⟩:=ck rfl;clear af ck;have ek:=ak.trans a';clear eQ ev ak a'))
 have c9:=mW.out _ ek;clear bJ dP;obtain⟨bJ,dP⟩:=c9.p;clear c9;by_cases o3:sc<0
 case pos=>
  have au:=hid (show¬kL A B sc d from fun q=>by have:=q.s7.1;omega);have gz:=wj.out _ ek;obtain⟨rA,l10,f10⟩:=gz.q;have bq:=hid (Cu gz (cN.out.trans ek) (by omega) () () () () () () () () aR);clear gz;go_wp2_with fail
  have cu:=bq.out.1.cell;exact bodyPost_ret (v:= .tuple #[.agg #[(),(),(),(),(),(),(),(),aR],.int .i64 6]) (by simp[results,results15,go_sem,cu]) rfl (vn.no (by decide) au.out bq.out.2)
 obtain⟨k,rfl⟩:=Int.eq_ofNat_of_zero_le (Int.not_lt.1 o3);by_cases n1:jM≤k
 case pos=>
  have afx:(jM:Int)≤k:=by omega
  have au:=hid (show¬kL A B k d from fun q=>by have:=q.s7.1;have:=n'.out;omega);clear n1 o3;have gz:=wj.out _ ek;obtain⟨rA,l10,f10⟩:=gz.q;have bq:=hid (Cu gz (cN.out.trans ek) (by omega) () () () () () () () () aR);clear gz;go_wp2_with fail
  have cu:=bq.out.1.cell;exact bodyPost_ret (v:= .tuple #[.agg #[(),(),(),(),(),(),(),(),aR],.int .i64 6]) (by simp[results,results15,go_sem,cu]) rfl (vn.no (by decide) au.out bq.out.2)
 obtain⟨n7,AM,rfl,fs,ih⟩:=rk.out (by omega);have ai:A.sc[k]?=some (A.sc[k]'(by rw[n'.out];omega)):=a8 _;obtain⟨-,-,-,⟨b6,t3,b'⟩,-⟩:=ih k _ ai;have Bj:=hid (show rl A k d→0≤d∧d<(A.sc[(k:Int).toNat]?.getD iq).ds.length from fun q=>q.2);have sl:=hid (show 0≤d∧d<(A.sc[(k:Int).toNat]?.getD iq).ds.length→rl A k d from fun q=>⟨by have:=n'.out;omega,q⟩);rw[Int.toNat_natCast,ai,Option.getD_some]at Bj sl;generalize A.sc[k]'(by rw[n'.out];omega)=s at*;obtain⟨fo,fS,rfl,-⟩:=b';generalize s.ds.length=cS at*;unfold ed at t3;replace t3:=(cN.out.trans ek).ad fs t3;have vI:=bd fs (cN.out.trans ek).size;have jI:(k:Int)<jM:=by omega
 have j8:¬((jM:Int)≤k):=by omega
 clear ih ai o3;by_cases ll:d<0
 case pos=>
  have au:=hid (show¬kL A B k d from fun q=>by have:=Bj.out q.s7;omega);clear n1;have gz:=wj.out _ ek;obtain⟨rA,l10,f10⟩:=gz.q;have bq:=hid (Cu gz (cN.out.trans ek) (by omega) () () () () () () () () aR);clear gz;go_wp2_with fail
  have cu:=bq.out.1.cell;exact bodyPost_ret (v:= .tuple #[.agg #[(),(),(),(),(),(),(),(),aR],.int .i64 6]) (by simp[results,results15,go_sem,cu]) rfl (vn.no (by decide) au.out bq.out.2)
 by_cases gB:(cS:Int)≤d
 case pos=>
  have au:=hid (show¬kL A B k d from fun q=>by have:=Bj.out q.s7;omega);clear n1;have gz:=wj.out _ ek;obtain⟨rA,l10,f10⟩:=gz.q;have bq:=hid (Cu gz (cN.out.trans ek) (by omega) () () () () () () () () aR);clear gz;go_wp2_with fail
  have cu:=bq.out.1.cell;exact bodyPost_ret (v:= .tuple #[.agg #[(),(),(),(),(),(),(),(),aR],.int .i64 6]) (by simp[results,results15,go_sem,cu]) rfl (vn.no (by decide) au.out bq.out.2)
 have abY:=hid (sl.out ⟨by omega,by omega⟩);go_upto_region 5 with fail
 have eE:=q8.out _ ek;obtain⟨eQ,ev⟩:=eE.p;clear eE t3 vI;by_cases bj:vb A B
 case neg=>
  have au:=hid (show¬kL A B k d from fun q=>bj q.CN);have cD:=hid bj;clear bj n1;go_upto_region 6 with (go_at_call 25;refine (Js.out _ (cN.out.trans ek)).mono ?_;rintro b7 cw ⟨x,rfl,af,bw⟩;obtain rfl:x=false:=(by cases x<;>first|rfl|exact absurd (af.1 rfl) cD.out);clear af;have gz:=wj.out _ (ek.trans bw);have l10:=gz.lt;have f10:=gz.frozen;have rA:=gz.cell;have bq:=hid (Cu gz (cN.out.trans (ek.trans bw)) (by omega) () () () () () () () () aR);clear gz)
  go_wp2_with fail
  have cu:=bq.out.1.cell;exact bodyPost_ret (v:= .tuple #[.agg #[(),(),(),(),(),(),(),(),aR],.int .i64 8]) (by simp[results,results15,go_sem,cu]) rfl (vn.no (by decide) au.out bq.out.2)
 have tn:=hid (show kL A B k d from⟨dW.out,cg.out,abY.out,bj⟩);have cD:=hid bj;clear bj n1 ll gB j8;go_upto_region 7 with (go_at_call 25;refine (Js.out _ (cN.out.trans ek)).mono ?_;rintro b7 cw ⟨x,rfl,af,bw⟩;obtain rfl:=af.2 cD.out;clear af)
 have fe:=ek.trans bw;clear bJ dP eQ ev ek bw Js F4 Dm rk;obtain⟨⟨⟨b9,cL,an⟩,ac⟩,PD⟩:∃R,h3 A k ⟨dt,ins,mem⟩ d=R:=⟨_,rfl⟩;obtain⟨⟨⟨dv,be,cc⟩,ku⟩,Hb⟩:∃R,h3 B k ⟨dt,ins,mem⟩ d=R:=⟨_,rfl⟩;rw[PD]at xF;rw[Hb]at xG;have Ng:=hid (show lh A B k d ⟨dt,ins,mem⟩=⟨⟨b9,cL,an⟩,⟨dv,be,cc⟩,ac,ku⟩ by unfold lh;rw[PD,Hb]);clear PD Hb;go_upto_region 8 with fail
 generalize ar:cw.alloc _=aok at*;obtain⟨bX,xA⟩:=Kept.az ar;clear ar;have P5:w.heap.size≤cw.heap.size:=(cN.out.trans fe).size;have Ek:W.heap.size≤cw.heap.size:=fe.size;have Jw:=fe.trans bX;have gM:=hid fe;clear fe;generalize ar:cw.heap.size=g at*;have c9:=mW.out _ Jw;obtain⟨bJ,dP⟩:=c9.p;have fv:=y8.out _ Jw;obtain⟨kx,vL⟩:=fv.p;clear c9 fv;go_upto_region 9 with (go_at_call 26;refine (xF.out _ (cN.out.trans Jw)).mono ?_;rintro fh eA ⟨rfl,cG⟩;have qt:=xA.kept cG;have zM:=qt.cell;have Ap:=qt.lt;have f12:=qt.frozen;have hK:=hid (afS qt (bX.trans cG) (Nat.le_of_eq ar) b9 cL an ac);clear qt)
 have od:=gM.out.trans hK.out.2;have S0:=hid hK.out.1;have jk:=hid hK.out.2;clear hK zM Ap f12 cG bJ dP kx vL bX xA Jw;generalize (((eA.setCell ⟨g,0,none⟩ b9).setCell ⟨g,1,none⟩ cL).setCell ⟨g,2,none⟩ an).setCell ⟨g,6,none⟩ ac=hN at*;have eE:=q8.out _ od;obtain⟨eQ,ev⟩:=eE.p;have fv:=y8.out _ od;obtain⟨kx,vL⟩:=fv.p;clear eE fv;go_upto_region 10 with (go_at_call 26;refine (xG.out _ (cN.out.trans od)).mono ?_;rintro hr cf ⟨rfl,cQ⟩;have qt:=S0.out.kept cQ;have zM:=qt.cell;have Ap:=qt.lt;have f12:=qt.frozen;have kO:=hid (afT qt (jk.out.trans cQ) (Nat.le_of_eq ar) dv be cc ku);clear qt)
 have zs:=gM.out.trans kO.out.2;have xA:=kO.out.1;have tr:=hid kO.out.2;clear kO zM Ap f12 cQ eQ ev kx vL od S0 jk xF xG y8;generalize (((cf.setCell ⟨g,3,none⟩ dv).setCell ⟨g,4,none⟩ be).setCell ⟨g,5,none⟩ cc).setCell ⟨g,7,none⟩ ku=nd at*;have ej:=hid (show∀X,Kept nd X→Kept nd X∧X.cell? ⟨w.heap.size,0,none⟩=some (.slice pf p2 pF)∧X.cell? ⟨w.heap.size,1,none⟩=some (.slice pj p4 pJ)∧X.cell? ⟨w.heap.size,2,none⟩=some (.slice (some ⟨n7,AM,none⟩) jM pH)∧X.cell? ⟨w.heap.size+1,0,none⟩=some (.slice pg p3 pG)∧X.cell? ⟨w.heap.size+1,1,none⟩=some (.slice pk ki pK)∧X.cell? ⟨w.heap.size+1,2,none⟩=some (.slice ph mK pI)from fun X h=>have c9:=mW.out _ (zs.trans h);have eE:=q8.out _ (zs.trans h);⟨h,c9.cell 0,c9.cell 1,c9.cell 2,eE.cell 0,eE.cell 1,eE.cell 2⟩);have dP:=(mW.out _ zs).lt;have ev:=(q8.out _ zs).lt;obtain⟨-,z0,e6,z2,z3,z4,z5⟩:=ej.out nd (aQ _);have hL:=hid (cN.out.trans zs);go_cut [13,14] (fun x y bt=>∃Iq LD FF yJ LF FG,x= .map (some Iq)∧y= .map (some yJ)∧gb 112 Iq LD FF bt∧nM FF (rq A (fV A k) d)∧gb 112 yJ LF FG bt∧nM FG (rq B (fV B k) d)∧Kept nd bt)
 case first=>
  go_region_held3 (fun X=>Kept nd X∧X.cell? ⟨w.heap.size,0,none⟩=some (.slice pf p2 pF)∧X.cell? ⟨w.heap.size,1,none⟩=some (.slice pj p4 pJ)∧X.cell? ⟨w.heap.size,2,none⟩=some (.slice (some ⟨n7,AM,none⟩) jM pH)∧X.cell? ⟨w.heap.size+1,0,none⟩=some (.slice pg p3 pG)∧X.cell? ⟨w.heap.size+1,1,none⟩=some (.slice pk ki pK)∧X.cell? ⟨w.heap.size+1,2,none⟩=some (.slice ph mK pI))
   ((refine ej.out _ ?_;(with_reducible repeat (first|exact .refl _|assumption|refine .drew ?_|refine .alloc ?_ _|refine .trans ?_ ‹Kept _ _›))))
   ((first|(go_at_call_of 27 (Value.agg #[Value.slice pf p2 pF,Value.slice pj p4 pJ,Value.slice (some ⟨n7,AM,none⟩) jM pH]);refine (lb.out _ (hL.out.trans ?_) tn.out).mono ?_;(·(with_reducible repeat (first|exact .refl _|assumption|refine .drew ?_|refine .alloc ?_ _|refine .trans ?_ ‹Kept _ _›)));rintro e dV ⟨Iq,LD,FF,rfl,kD,gQ,eW⟩;have tq:=hid (And.intro kD gQ);clear kD gQ;have NS:Kept nd dV:=(by (with_reducible repeat (first|exact .refl _|assumption|refine .drew ?_|refine .alloc ?_ _|refine .trans ?_ ‹Kept _ _›))))|(go_at_call_of 27 (Value.agg #[Value.slice pg p3 pG,Value.slice pk ki pK,Value.slice ph mK pI]);refine (qj.out _ (hL.out.trans ?_) tn.out).mono ?_;(·(with_reducible repeat (first|exact .refl _|assumption|refine .drew ?_|refine .alloc ?_ _|refine .trans ?_ ‹Kept _ _›)));rintro e jT ⟨yJ,LF,FG,rfl,iJ,nY,xi⟩;have Jc:=hid (And.intro iJ nY);clear iJ nY;have Du:Kept nd jT:=(by (with_reducible repeat (first|exact .refl _|assumption|refine .drew ?_|refine .alloc ?_ _|refine .trans ?_ ‹Kept _ _›))))))
  all_goals
   rename_i hHeld;clear hHeld;go_wp2_with fail
   go_meet;exact⟨Iq,LD,FF,yJ,LF,FG,rfl,rfl,tq.out.1.kept xi,tq.out.2,Jc.out.1,Jc.out.2,Du⟩
 case rest=>
  obtain⟨Iq,LD,FF,yJ,LF,FG,rfl,rfl,Pv,Wb,Eb,Wc,ab⟩:=hcut;generalize wc=W10 at*;have Nb:=hid Wb;have HFB:=hid Wc;have Jv:=zs.trans ab;clear z0 e6 z2 z3 z4 z5 dP ev Wb Wc ej lb qj;have c9:=mW.out _ Jv;obtain⟨bJ,dP⟩:=c9.p;have eE:=q8.out _ Jv;obtain⟨eQ,ev⟩:=eE.p;clear c9 eE;go_upto_region 12 with (go_at_call 8;refine (xE.out _ (cN.out.trans Jv)).mono ?_;rintro e Ft ⟨v11,rfl,aeK,HZ⟩;obtain⟨jy,ou,rfl,lS⟩:=aeK;have rj:=hid lS;clear lS)
  have y3:=(xA.kept ab).kept HZ;have TD:=hid (Pv.kept HZ);have tt:=hid (Eb.kept HZ);have abJ:=hid ((tr.out.trans ab).trans HZ);have tk:=hid (And.intro Pv.lt Eb.lt);clear bJ dP eQ ev Pv Eb ab Jv zs xA HZ xE mW q8 tr hL;obtain⟨i0,hS,hT,hU,hV⟩:=info_parts Tryz.YS;generalize vC:(j2 A B).length=uo at*;have FT:=hid vC;clear vC;go_loopw [91] (fun y wr=>∃(i:Nat) (bA:Value),y= .int .i64 i∧i≤uo∧Two Ft wr none g∧ao wr g 50 #[b9,cL,an,dv,be,cc,ac,ku,bA]∧c3 wr Ft.heap.size 86 kZ 3 bA (((j2 A B).take i).filter (uy A B k d))) (fun y _=>uo-(intOf y).toNat)
  case atStart=>exact⟨0,_,rfl,Nat.zero_le _,Two.refl _ _ _,y3,c3.nil _ _ _⟩
  case round=>
   obtain⟨i,bA,rfl,de,bl,aU,G5⟩:=hrel;by_cases aD:i<uo
   ·obtain⟨hs,go,rfl,ic,hx⟩:=rj.out (by omega);have ai:(j2 A B)[i]?=some ((j2 A B)[i]'(by have:=FT.out;omega)):=a8 _;have t0:Ft.cell? ⟨hs,go+i*3,none⟩=some (.string _):=hx i _ ai 0 _ rfl;have t1:Ft.cell? ⟨hs,go+i*3+1,none⟩=some (.string _):=hx i _ ai 1 _ rfl;have t2:Ft.cell? ⟨hs,go+i*3+2,none⟩=some (.int .i64 _):=hx i _ ai 2 _ rfl;have kf:=Be.out _ (List.mem_of_getElem? ai);have I_:=hid (aew (uy A B k d) ai);have oy:((((j2 A B).take i).filter (uy A B k d))).length≤120:=Nat.le_trans (List.length_filter_le _ _) (by rw[List.length_take];exact Nat.le_trans (Nat.min_le_right _ _) (by rw[FT.out];exact zg.out));generalize (j2 A B)[i]'(by have:=FT.out;omega)=x at*;generalize ((j2 A B).take i).filter (uy A B k d)=bh at*;have bQ:hs≠g:=fun e=>ahl y3 (e▸t0);rw[←bl.cell ic bQ]at t0 t1 t2;have sO:=bd ic bl.size;have c6:(i:Int)<uo:=by omega
    have K8:(i:Int)+1≤9223372036854775807:=by have:=zg.out;have:=FT.out;omega
    have ch:=hid bl;have C0:=hid aU;have Tm:=hid G5;have I9:=hid oy;have iR:=hid (And.intro aD de);clear ai hx bl aU G5 oy de;go_upto_region 14 with fail
    generalize ar:wr.alloc _=V at*;obtain⟨bX,AT⟩:=Kept.az ar;clear ar;clear t0 t1 t2 sO;generalize wr.heap.size=g16 at*;obtain⟨BE,H4⟩:=AT.p;go_upto_region 15 with fail
    generalize ar:V.alloc _=bG at*;obtain⟨fq,FA⟩:=Kept.az ar;clear ar;have eY:=bX.trans fq;have Fz:=AT.kept fq;clear BE H4 AT;clear fq;generalize V.heap.size=g17 at*;have XH:=(TD.out.two ch.out (Zx TD.out y3)).kept eY;have Er:=(tt.out.two ch.out (Zx tt.out y3)).kept eY;obtain⟨uh,ie⟩:=aap kf.1 kf.2;have Qn:=XH.look false Tryz.RQ Tryz.RR (Tryz.Om bG) ie;have Cn:=Er.look false Tryz.RQ Tryz.RR (Tryz.Om bG) ie;obtain⟨bD,Ez,B6⟩:=nM.bool Nb.out x.sc x.dF;obtain⟨gG,ma,Xg⟩:=nM.bool HFB.out x.sc x.dF;simp only[if_neg (show¬(false=true) by decide)]at Qn Cn;unfold xj at Ez ma;rw[Ez]at Qn;rw[ma]at Cn;have qj:=hid (ahZ (A:=A) (B:=B) (sc:=k) (d:=d) B6 Xg);have tr:=hid (ch.out.trans (Two.iZ eY) (.inl rfl));have M4:=hid (C0.out.kept eY);have A':=hid (Tm.out.n3 eY);clear XH Er ie Ez ma B6 Xg bX eY kf;obtain⟨BE,H4⟩:=Fz.p;obtain⟨Oq,Q1⟩:=FA.p;go_cut [117] (fun v bt=>v= .bool (uy A B k d x)∧bt=bG)
    case first=>
     by_cases a6:x.k=2
     ·have aI:=hid (qj.out false true (by simp[a6]) (by simp[a6]));rw[a6]at BE;clear a6 qj FA Fz
      cases bD<;>cases gG
      all_goals
       go_wp2_with fail
       go_meet;exact⟨by rw[aI.out]<;>rfl,rfl⟩
     ·have Vq:(x.k !=2)=true:=by simpa using a6
      by_cases az:x.k=1
      ·have aI:=hid (qj.out true false (by simp[az]) (by simp[az]));rw[az]at BE;clear az a6 Vq qj FA Fz
       cases bD<;>cases gG
       all_goals
        go_wp2_with fail
        go_meet;exact⟨by rw[aI.out]<;>rfl,rfl⟩
      ·have qz:(x.k !=1)=true:=by simpa using az
       have aI:=hid (qj.out true true (by simp[a6]) (by simp[az]));clear az a6 qj FA Fz
       cases bD<;>cases gG
       all_goals
        go_wp2_with fail
        go_meet;exact⟨by rw[aI.out]<;>rfl,rfl⟩
    case rest=>
     obtain⟨rfl,yt⟩:=hcut;obtain rfl:bG=wc:=yt.symm;clear Qn Cn Oq Q1 FA qj
     cases ud:uy A B k d x
     case false=>
      rw[ud]at I_;have aV:=hid I_.out;clear ud BE H4;go_wp2_with fail
      go_roundw
      case rel=>exact⟨i+1,bA,by go_num,iR.out.1,tr.out,M4.out,by rw[aV.out,if_neg (by simp),List.append_nil];exact A'.out⟩
      case measure=>simp[intOf];omega
     case true=>
      rw[ud]at I_;have aV:=hid I_.out;clear ud;obtain⟨mU,sF,rfl,-,-⟩:=A'.out.form;have WW:=M4.out;obtain⟨zM,Ap⟩:=WW.p;have oy:=I9.out;have WI:=tr.out.size;have C4:=hid (y3.lt);clear WW Fz ch C0 Tm;go_upto_region 17 with (at_builtin;refine wpList_append_own_at _ rfl (.tmp 119) (.tmp 121) 41 rfl Ft.heap.size 86 i0 (.agg #[.string ⟨#[]⟩,.string ⟨#[]⟩,()]) 3 40 underlying41 hS hT hU hV rfl (by decide) _ bh.length (bh.flatMap kZ) rfl (World.ownsRow.alloc A'.out _) ⟨bG.heap.size,0,none⟩ 1 1 (kZ x) rfl rfl zK (J' _) (by unfold maxLen;omega) (by omega) (by simp<;>omega) ?_;intro v6 dV aO aN _ dA;obtain⟨q4,eQ,rfl⟩:=il aO;have eN:=hid (ad5 tr.out C4.out M4.out A'.out aO aN dA);have eE:=eN.out.1;have d6:=eE.cell;have m6:=eE.lt;have f6:=eE.frozen;clear eE aO aN dA zM Ap BE H4 WI oy)
      go_wp2_with fail
      go_roundw
      case rel=>exact⟨i+1,_,by go_num,iR.out.1,eN.out.2.1,eN.out.2.2.1,by rw[aV.out,if_pos rfl];exact eN.out.2.2.2⟩
      case measure=>simp[intOf];omega
   ·obtain rfl:i=uo:=by omega
    have c6:¬((i:Int)<i):=by omega
    rw[List.take_of_length_le (by rw[FT.out];exact Nat.le_refl _)]at G5;obtain⟨mU,sF,rfl,-,-⟩:=G5.form;have al:=gM.out.trans (bl.kept abJ.out (Nat.le_of_eq ar));have gz:=wj.out _ al;have C9:=hid (show ((j2 A B).filter (uy A B k d)).length=(vW A B k d).length from rfl);generalize ((j2 A B).filter (uy A B k d)).length=Ij at*;have bq:=hid (ah9 (old:=[.int .i64 0,.int .i64 0,.int .i64 0,.int .i64 0,.int .i64 0,.int .i64 0,.int .i64 0,.int .i64 0,.slice none 0 0]) (cs:=[.int .i64 b9,cL,an,dv,be,cc,ac,ku,.slice mU Ij sF]) gz (cN.out.trans al) (by omega) rfl);have aH:=acW (cs:=[.int .i64 b9,cL,an,dv,be,cc,ac,ku,.slice mU Ij sF]) aU;have bS:=acX (cs:=[.int .i64 0,.int .i64 0,.int .i64 0,.int .i64 0,.int .i64 0,.int .i64 0,.int .i64 0,.int .i64 0,.slice none 0 0]) gz;clear gz al bl aU G5 y3 ar P5 Ek;go_upto_region 18 with fail
    refine wp_region_lit (l:=[_,_,_]) ?_;refine wpList_load_mid rfl 50 (.tmp 12) rfl g 0 rfl [.int .i64 b9,cL,an,dv,be,cc,ac,ku,.slice mU Ij sF] _ aH underlying50 rfl (by kernel_rfl) ?_;refine wpList_store_mid rfl 50 (.tmp 10) (.tmp 125) rfl (w.heap.size+1+1+1) 0 #[b9,cL,an,dv,be,cc,ac,ku,.slice mU Ij sF] rfl rfl bS (by kernel_rfl) (by simp[Value.oneCell']) ?_;clear aH bS;generalize (wr.setCells (w.heap.size+1+1+1) 0 _)=aol at*;rename_i Aa;refine wpList_plain rfl fun zs fi=> ?_;unfold Oper.wp execOp;simp only[Act.eval,Sem.run_pure];refine fi _ _ (wpList_nil (Aa _ _ (wp_ret ?_)));have cu:=bq.out.1.cell;exact bodyPost_ret (v:= .tuple #[.agg #[b9,cL,an,dv,be,cc,ac,ku,.slice mU Ij sF],()]) (by simp[results,results15,go_sem,Act.put,cu]) rfl ⟨⟨⟨b9,cL,an⟩,⟨dv,be,cc⟩,ac,ku⟩,mU,Ij,sF,0,rfl,iff_of_true rfl tn.out,fun _=>⟨Ng.out.symm,C9.out⟩,bq.out.2⟩
end Go.Proofs.YtobpgndkciofhaaGreatDoor
