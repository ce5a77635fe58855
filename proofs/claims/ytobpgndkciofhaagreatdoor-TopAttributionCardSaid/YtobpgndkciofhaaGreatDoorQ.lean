import Derived.Test.YtobpgndkciofhaaGreatDoorL
import Derived.Test.YtobpgndkciofhaaGreatDoorP
set_option linter.all false
namespace Go.Proofs.YtobpgndkciofhaaGreatDoor
open Go.RowKit Go.Proofs.Tryz
open Go.Lib (hid)
set_option maxRecDepth 100000
set_option maxHeartbeats 16000000
noncomputable def ca:gm:=⟨oH,vg⟩
def fN (r:bg×Int) (w:World) (e:Ending) (w':World):Prop:=e= .returned (.tuple #[.agg #[r.1.k,r.1.e,r.1.n],r.2])∧Kept w w'
theorem adG (o n:Int) (c0 bE:Value) (args:List bg) (E:dC) (w:World) (aX:hl w bE E) (aL:1≤o∧o≤5):Calls prog 144 #[.agg #[o,n],c0,bE] w (fN (e1 ca ⟨o,n⟩ args E) w):=by
 unfold fN;obtain⟨cl,aC,cM,aM,cX,a1,ef,bN,dk,bJ,rfl,I,U,ae,aJ,bp⟩:=aX.open_;have aI:=hid (show e1 ca ⟨o,n⟩ args E=(⟨o,0,n⟩,0) by unfold e1;rw[if_pos aL]);obtain⟨R,aw⟩:∃R,R=e1 ca ⟨o,n⟩ args E:=⟨_,rfl⟩;rw[←aw]at aI⊢;clear aw;obtain⟨⟨eX,gw,dw⟩,rc⟩:=R;obtain⟨rfl,rfl,rfl,rfl⟩:=h7 aI.out;have Ce:(eX==1)=true∨((eX==1)=false∧(eX==2)=true)∨((eX==1)=false∧(eX==2)=false∧(eX==3)=true)∨((eX==1)=false∧(eX==2)=false∧(eX==3)=false∧(eX==4)=true)∨((eX==1)=false∧(eX==2)=false∧(eX==3)=false∧(eX==4)=false∧(eX==5)=true):=by simp;omega
 clear I U ae aJ bp aX aL aI;obtain⟨uJ,oo⟩:True∧True:=⟨trivial,trivial⟩;clear uJ oo;rcases Ce with aO|⟨aO,aN⟩|⟨aO,aN,cK⟩|⟨aO,aN,cK,dA⟩|⟨aO,aN,cK,dA,p9⟩
 all_goals
  go_enter func144,ntmps144
  go_wp2_with fail
  exact bodyPost_ret (v:= .tuple #[.agg #[eX,(),dw],()]) (by simp[results,results144,go_sem]) rfl ⟨rfl,(by with_reducible repeat first|exact .refl _|assumption|refine .drew ?_|refine .alloc ?_ _|refine .setCell ?_ (by (try simp only);omega) _|refine .trans ?_ ‹Kept _ _›)⟩
theorem adC (o n:Int) (c0 bE:Value) (args:List bg) (E:dC) (w:World) (aX:hl w bE E) (aL:o=6) (aA:0≤n∧n≤9223372036854775807):Calls prog 144 #[.agg #[o,n],c0,bE] w (fN (e1 ca ⟨o,n⟩ args E) w):=by
 unfold fN;obtain⟨cl,aC,cM,aM,cX,a1,ef,bN,dk,bJ,rfl,I,U,ae,aJ,bp⟩:=aX.open_;have aI:=hid (show e1 ca ⟨o,n⟩ args E=(⟨6,n/16,n% 16⟩,0) by unfold e1;rw[if_neg (by simp only;omega),if_pos (by simp only;omega)]);obtain⟨R,aw⟩:∃R,R=e1 ca ⟨o,n⟩ args E:=⟨_,rfl⟩;rw[←aw]at aI⊢;clear aw;obtain⟨⟨eX,gw,dw⟩,rc⟩:=R;obtain⟨rfl,rfl,rfl,rfl⟩:=h7 aI.out;obtain⟨x3,x4,x5,x6,x7,kW⟩:(o==1)=false∧(o==2)=false∧(o==3)=false∧(o==4)=false∧(o==5)=false∧(o==6)=true:=by refine⟨?_,?_,?_,?_,?_,?_⟩<;>(simp;omega)
 obtain⟨hY,en⟩:=aA;have az:n.tdiv 16=n/16:=Int.tdiv_eq_ediv_of_nonneg hY;have a6:n.tmod 16=n% 16:=Int.tmod_eq_emod_of_nonneg hY;clear I U ae aJ bp aX aL aI;go_enter func144,ntmps144
 go_wp2_with fail
 exact bodyPost_ret (v:= .tuple #[.agg #[.int .i64 6,.int .i64 (n/16),.int .i64 (n% 16)],()]) (by simp[results,results144,go_sem]) rfl ⟨rfl,(by with_reducible repeat first|exact .refl _|assumption|refine .drew ?_|refine .alloc ?_ _|refine .setCell ?_ (by (try simp only);omega) _|refine .trans ?_ ‹Kept _ _›)⟩
theorem adD (o n:Int) (c0 bE:Value) (args:List bg) (E:dC) (w:World) (aX:hl w bE E) (aL:o=7) (hex:lL n E.ins.length=true):Calls prog 144 #[.agg #[o,n],c0,bE] w (fN (e1 ca ⟨o,n⟩ args E) w):=by
 unfold fN;obtain⟨cl,aC,cM,aM,cX,a1,ef,bN,dk,bJ,rfl,I,U,ae,aJ,bp⟩:=aX.open_;obtain⟨k,x,rfl,jI,af⟩:=wU hex;obtain⟨b,off,rfl,J,bZ,b3,cT⟩:=I.get af;have aI:=hid (show e1 ca ⟨o,k⟩ args E=(x,0) by unfold e1;rw[if_neg (by simp only;omega),if_neg (by simp only;omega),if_pos (by simp only;omega)];simp[af]);obtain⟨R,aw⟩:∃R,R=e1 ca ⟨o,k⟩ args E:=⟨_,rfl⟩;rw[←aw]at aI⊢;clear aw;obtain⟨⟨eX,gw,dw⟩,rc⟩:=R;obtain⟨e5,fK,ks⟩:=x;obtain⟨rfl,rfl,rfl,rfl⟩:=h7 aI.out;obtain⟨x3,x4,x5,x6,x7,eE,kW⟩:(o==1)=false∧(o==2)=false∧(o==3)=false∧(o==4)=false∧(o==5)=false∧(o==6)=false∧(o==7)=true:=by refine⟨?_,?_,?_,?_,?_,?_,?_⟩<;>(simp;omega)
 clear I U ae aJ bp aX aL aI af hex;obtain⟨dt,ins,ds,ms,mt,tb⟩:=E;dsimp only at*;go_enter func144,ntmps144
 go_upto_region 1 with fail
 generalize ar:((w.alloc _).alloc _).alloc _=W at*;obtain⟨aF,a_,aS,aT⟩:=Kept.b7 ar;clear ar;obtain⟨dL,cA⟩:=a_.p;obtain⟨dq,a7⟩:=aS.p;obtain⟨dR,bx,vS⟩:=aT.q;have gd:=aF.ad J bZ;have hO:=aF.ad J b3;have iv:=aF.ad J cT;have fO:=bd J aF.size;clear bZ b3 cT;go_wp2_with fail
 have Z:=(((aT.aP 0 (.int .i64 (eX))).aP 1 (.int .i64 (gw))).aP 2 (.int .i64 (dw))).cell;exact bodyPost_ret (v:= .tuple #[.agg #[eX,gw,dw],()]) (by simp[results,results144,go_sem,Z]) rfl ⟨rfl,(by with_reducible repeat first|exact .refl _|assumption|refine .drew ?_|refine .alloc ?_ _|refine .setCell ?_ (by (try simp only);omega) _|refine .trans ?_ ‹Kept _ _›)⟩
theorem adE (o n:Int) (c0 bE:Value) (args:List bg) (E:dC) (w:World) (aX:hl w bE E) (aL:o=8) (hex:lL n E.ds.length=true):Calls prog 144 #[.agg #[o,n],c0,bE] w (fN (e1 ca ⟨o,n⟩ args E) w):=by
 unfold fN;obtain⟨cl,aC,cM,aM,cX,a1,ef,bN,dk,bJ,rfl,I,U,ae,aJ,bp⟩:=aX.open_;obtain⟨k,x,rfl,jI,af⟩:=wU hex;obtain⟨b,off,rfl,J,bZ,b3,cT⟩:=U.get af;have aI:=hid (show e1 ca ⟨o,k⟩ args E=(x,0) by unfold e1;rw[if_neg (by simp only;omega),if_neg (by simp only;omega),if_neg (by simp only;omega),if_pos (by simp only;omega)];simp[af]);obtain⟨R,aw⟩:∃R,R=e1 ca ⟨o,k⟩ args E:=⟨_,rfl⟩;rw[←aw]at aI⊢;clear aw;obtain⟨⟨eX,gw,dw⟩,rc⟩:=R;obtain⟨e5,fK,ks⟩:=x;obtain⟨rfl,rfl,rfl,rfl⟩:=h7 aI.out;obtain⟨x3,x4,x5,x6,x7,eE,mx,kW⟩:(o==1)=false∧(o==2)=false∧(o==3)=false∧(o==4)=false∧(o==5)=false∧(o==6)=false∧(o==7)=false∧(o==8)=true:=by refine⟨?_,?_,?_,?_,?_,?_,?_,?_⟩<;>(simp;omega)
 clear I U ae aJ bp aX aL aI af hex;obtain⟨dt,ins,ds,ms,mt,tb⟩:=E;dsimp only at*;go_enter func144,ntmps144
 go_upto_region 1 with fail
 generalize ar:((w.alloc _).alloc _).alloc _=W at*;obtain⟨aF,a_,aS,aT⟩:=Kept.b7 ar;clear ar;obtain⟨dL,cA⟩:=a_.p;obtain⟨dq,a7⟩:=aS.p;obtain⟨dR,bx,vS⟩:=aT.q;have gd:=aF.ad J bZ;have hO:=aF.ad J b3;have iv:=aF.ad J cT;have fO:=bd J aF.size;clear bZ b3 cT;go_wp2_with fail
 have Z:=(((aT.aP 0 (.int .i64 (eX))).aP 1 (.int .i64 (gw))).aP 2 (.int .i64 (dw))).cell;exact bodyPost_ret (v:= .tuple #[.agg #[eX,gw,dw],()]) (by simp[results,results144,go_sem,Z]) rfl ⟨rfl,(by with_reducible repeat first|exact .refl _|assumption|refine .drew ?_|refine .alloc ?_ _|refine .setCell ?_ (by (try simp only);omega) _|refine .trans ?_ ‹Kept _ _›)⟩
theorem adF (o n:Int) (c0 bE:Value) (args:List bg) (E:dC) (w:World) (aX:hl w bE E) (aL:o=9):Calls prog 144 #[.agg #[o,n],c0,bE] w (fN (e1 ca ⟨o,n⟩ args E) w):=by
 unfold fN;obtain⟨cl,aC,cM,aM,cX,a1,ef,bN,dk,bJ,rfl,I,U,ae,aJ,bp⟩:=aX.open_;have aI:=hid (show e1 ca ⟨o,n⟩ args E=(⟨5,0,E.dt⟩,0) by unfold e1;rw[if_neg (by simp only;omega),if_neg (by simp only;omega),if_neg (by simp only;omega),if_neg (by simp only;omega),if_pos (by simp only;omega)]);obtain⟨R,aw⟩:∃R,R=e1 ca ⟨o,n⟩ args E:=⟨_,rfl⟩;rw[←aw]at aI⊢;clear aw;obtain⟨⟨eX,gw,dw⟩,rc⟩:=R;obtain⟨rfl,rfl,rfl,rfl⟩:=h7 aI.out;obtain⟨x3,x4,x5,x6,x7,eE,mx,fv,kW⟩:(o==1)=false∧(o==2)=false∧(o==3)=false∧(o==4)=false∧(o==5)=false∧(o==6)=false∧(o==7)=false∧(o==8)=false∧(o==9)=true:=by refine⟨?_,?_,?_,?_,?_,?_,?_,?_,?_⟩<;>(simp;omega)
 clear I U ae aJ bp aX aL aI;go_enter func144,ntmps144
 go_wp2_with fail
 exact bodyPost_ret (v:= .tuple #[.agg #[.int .i64 5,(),E.dt],()]) (by simp[results,results144,go_sem]) rfl ⟨rfl,(by with_reducible repeat first|exact .refl _|assumption|refine .drew ?_|refine .alloc ?_ _|refine .setCell ?_ (by (try simp only);omega) _|refine .trans ?_ ‹Kept _ _›)⟩
theorem adB (o n:Int) (c0 bE:Value) (args:List bg) (E:dC) (w:World) (aX:hl w bE E) (aL:o=35):Calls prog 144 #[.agg #[o,n],c0,bE] w (fN (e1 ca ⟨o,n⟩ args E) w):=by
 unfold fN;obtain⟨cl,aC,cM,aM,cX,a1,ef,bN,dk,bJ,rfl,I,U,ae,aJ,bp⟩:=aX.open_;have aI:=hid (show e1 ca ⟨o,n⟩ args E=(⟨2,0,E.ms.length⟩,0) by unfold e1;rw[if_neg (by simp only;omega),if_neg (by simp only;omega),if_neg (by simp only;omega),if_neg (by simp only;omega),if_neg (by simp only;omega),if_pos (by simp only;omega)]);obtain⟨R,aw⟩:∃R,R=e1 ca ⟨o,n⟩ args E:=⟨_,rfl⟩;rw[←aw]at aI⊢;clear aw;obtain⟨⟨eX,gw,dw⟩,rc⟩:=R;obtain⟨rfl,rfl,rfl,rfl⟩:=h7 aI.out;obtain⟨x3,x4,x5,x6,x7,eE,mx,fv,fg,kW⟩:(o==1)=false∧(o==2)=false∧(o==3)=false∧(o==4)=false∧(o==5)=false∧(o==6)=false∧(o==7)=false∧(o==8)=false∧(o==9)=false∧(o==35)=true:=by refine⟨?_,?_,?_,?_,?_,?_,?_,?_,?_,?_⟩<;>(simp;omega)
 clear I U ae aJ bp aX aL aI;go_enter func144,ntmps144
 go_wp2_with fail
 exact bodyPost_ret (v:= .tuple #[.agg #[.int .i64 2,(),.int .i64 (E.ms.length:Nat)],()]) (by simp[results,results144,go_sem]) rfl ⟨rfl,(by with_reducible repeat first|exact .refl _|assumption|refine .drew ?_|refine .alloc ?_ _|refine .setCell ?_ (by (try simp only);omega) _|refine .trans ?_ ‹Kept _ _›)⟩
theorem adH (o n:Int) (c0 bE:Value) (args:List bg) (E:dC) (w:World) (aX:hl w bE E) (aL:o=36∨o=37∨o=38∨o=39) (hex:lL n E.mt.length=true):Calls prog 144 #[.agg #[o,n],c0,bE] w (fN (e1 ca ⟨o,n⟩ args E) w):=by
 unfold fN;obtain⟨cl,aC,cM,aM,cX,a1,ef,bN,dk,bJ,rfl,I,U,ae,aJ,bp⟩:=aX.open_;obtain⟨k,x,rfl,jI,af⟩:=wU hex;have aI:=hid (show e1 ca ⟨o,k⟩ args E=yI ⟨o,k⟩ E by unfold e1;rw[if_neg (by simp only;omega),if_neg (by simp only;omega),if_neg (by simp only;omega),if_neg (by simp only;omega),if_neg (by simp only;omega),if_neg (by simp only;omega),if_pos (by simp only;omega)]);have dM:=hid (fun w1 (h:Kept w w1)=>ahK o k aL _ E w1 (aX.kept h) (by omega));unfold Rz at dM;rw[←aI.out]at dM;obtain⟨R,aw⟩:∃R,R=e1 ca ⟨o,k⟩ args E:=⟨_,rfl⟩;rw[←aw]at dM⊢;clear aw aI;obtain⟨⟨eX,gw,dw⟩,rc⟩:=R;obtain⟨x3,x4,x5,x6,x7,eE,mx,fv,fg,JY⟩:(o==1)=false∧(o==2)=false∧(o==3)=false∧(o==4)=false∧(o==5)=false∧(o==6)=false∧(o==7)=false∧(o==8)=false∧(o==9)=false∧(o==35)=false:=by refine⟨?_,?_,?_,?_,?_,?_,?_,?_,?_,?_⟩<;>(simp;omega)
 have Ce:(o==36)=true∨((o==36)=false∧(o==37)=true)∨((o==36)=false∧(o==37)=false∧(o==38)=true)∨((o==36)=false∧(o==37)=false∧(o==38)=false∧(o==39)=true):=by simp;omega
 clear I U ae aJ bp aX aL af hex;rcases Ce with aO|⟨aO,aN⟩|⟨aO,aN,cK⟩|⟨aO,aN,cK,dA⟩
 all_goals
  go_enter func144,ntmps144
  go_wp2_with (go_at_call 164;refine (dM.out _ (by with_reducible repeat first|exact .refl _|assumption|refine .drew ?_|refine .alloc ?_ _|refine .setCell ?_ (by (try simp only);omega) _|refine .trans ?_ ‹Kept _ _›)).mono ?_;rintro y w1 ⟨rfl,ak⟩;obtain⟨cx,gQ⟩:=Kept.cells ak;have cb:=ak.size;(try simp at cb))
  exact bodyPost_ret (v:= .tuple #[.agg #[eX,gw,dw],rc]) (by simp[results,results144,go_sem,cx]) rfl ⟨rfl,(by with_reducible repeat first|exact .refl _|assumption|refine .drew ?_|refine .alloc ?_ _|refine .setCell ?_ (by (try simp only);omega) _|refine .trans ?_ ‹Kept _ _›)⟩
theorem Kc (o n:Int) (c0 bE:Value) (args:List bg) (E:dC) (w:World) (aX:hl w bE E) (a:bg) (aZ:args=[a]) (aK:ff w c0 args) (aL:o=10∨o=25∨o=31∨o=32) (bD:gH a=true) (br:Mon w):Calls prog 144 #[.agg #[o,n],c0,bE] w (fN (e1 ca ⟨o,n⟩ args E) w):=by
 unfold fN;obtain⟨cl,aC,cM,aM,cX,a1,ef,bN,dk,bJ,rfl,I,U,ae,aJ,bp⟩:=aX.open_;subst aZ;obtain⟨uJ,oo,rfl,-⟩:=aK.at_;obtain⟨b,off,rfl,J,bZ,b3,cT⟩:=aK.get (k:=0) rfl;have aI:=hid (show e1 ca ⟨o,n⟩ [a] E=(CS o a,0) by
  unfold e1;rw[if_neg (by simp only;omega),if_neg (by simp only;omega),if_neg (by simp only;omega),if_neg (by simp only;omega),if_neg (by simp only;omega),if_neg (by simp only;omega),if_neg (by simp only;omega),if_neg (by simp only;omega),if_neg (by simp only;omega)])
 have cV:=hid (fun w1 (h:Kept w w1)=>ake o a.k a.e a.n aL bD w1 (br.kept h));rw[show (⟨a.k,a.e,a.n⟩:bg)=a from rfl]at cV;obtain⟨u,hu⟩:∃u,u=CS o a:=⟨_,rfl⟩;rw[←hu]at aI cV;clear hu;obtain⟨aoO,aoM,un⟩:=u;obtain⟨R,aw⟩:∃R,R=e1 ca ⟨o,n⟩ [a] E:=⟨_,rfl⟩;rw[←aw]at aI⊢;clear aw;obtain⟨⟨eX,gw,dw⟩,rc⟩:=R;obtain⟨rfl,rfl,rfl,rfl⟩:=h7 aI.out;obtain⟨x3,x4,x5,x6,x7,eE,mx,fv,fg,JY,DQ,DR,DS,DT,Bx,Gw⟩:(o==1)=false∧(o==2)=false∧(o==3)=false∧(o==4)=false∧(o==5)=false∧(o==6)=false∧(o==7)=false∧(o==8)=false∧(o==9)=false∧(o==35)=false∧(o==36)=false∧(o==37)=false∧(o==38)=false∧(o==39)=false∧(o==33)=false∧(o==34)=false:=by refine⟨?_,?_,?_,?_,?_,?_,?_,?_,?_,?_,?_,?_,?_,?_,?_,?_⟩<;>(simp;omega)
 clear I U ae aJ bp aX aL aI aK br bD;obtain⟨dt,ins,ds,ms,mt,tb⟩:=E;dsimp only at*;go_enter func144,ntmps144
 go_upto_region 34 with fail
 generalize ar:((w.alloc _).alloc _).alloc _=W at*;obtain⟨aF,a_,aS,aT⟩:=Kept.b7 ar;clear ar;obtain⟨dL,cA⟩:=a_.p;obtain⟨dq,a7⟩:=aS.p;obtain⟨dR,bx,vS⟩:=aT.q;have z0:=al.cell a_.lt (a_.cell 0);have gd:=al.cell (bd J aF.size) (aF.ad J bZ);have hO:=al.cell (bd J aF.size) (aF.ad J b3);have iv:=al.cell (bd J aF.size) (aF.ad J cT)
 (try simp only[Nat.zero_mul,Nat.add_zero]at gd hO iv)
 clear bZ b3 cT dL dq dR vS cA a7 bx;refine v8 6 (by kernel_rfl) (by kernel_rfl) ?_;simp only[List.take_succ_cons,List.take_zero,List.drop_succ_cons,List.drop_zero]
 repeat (go_big_quiet_step ((go_at_call 167;exact al.call (cV.out _ (aF.trans (al.h _))))))
 refine wpQuiet_nil ?_;rintro w2 ⟨⟨bt,cj⟩,bb⟩;obtain rfl:w2=bt:=bb;have cm:=aT.kept cj;obtain⟨vh,vj,vi⟩:=cm.q;go_wp2_with fail
 have Z:=(((cm.aP 0 (.int .i64 (eX))).aP 1 (.int .i64 (gw))).aP 2 (.int .i64 (dw))).cell;exact bodyPost_ret (v:= .tuple #[.agg #[eX,gw,dw],()]) (by simp[results,results144,go_sem,Z]) rfl ⟨rfl,(by with_reducible repeat first|exact .refl _|assumption|refine .drew ?_|refine .alloc ?_ _|refine .setCell ?_ (by (try simp only);omega) _|refine .trans ?_ ‹Kept _ _›)⟩
theorem ady (o n:Int) (c0 bE:Value) (args:List bg) (E:dC) (w:World) (aX:hl w bE E) (a b:bg) (aZ:args=[a,b]) (aK:ff w c0 args) (aL:(11≤o∧o≤22)∨(27≤o∧o≤30)) (bD:gH a=true) (gG:gH b=true) (jt:ve o a b=true) (br:Mon w):Calls prog 144 #[.agg #[o,n],c0,bE] w (fN (e1 ca ⟨o,n⟩ args E) w):=by
 unfold fN;obtain⟨cl,aC,cM,aM,cX,a1,ef,bN,dk,bJ,rfl,I,U,ae,aJ,bp⟩:=aX.open_;subst aZ;obtain⟨uJ,oo,rfl,-⟩:=aK.at_;obtain⟨lg,off,rfl,J,bZ,b3,cT⟩:=aK.get (k:=0) rfl;obtain⟨ey,ZP,he,-,e3,ee,fW⟩:=aK.get (k:=1) rfl;obtain⟨rfl,rfl,-⟩:=Addr.mk.inj (Option.some.inj he);have aI:=hid (show e1 ca ⟨o,n⟩ [a,b] E=ng ca ⟨o,n⟩ a b by
  unfold e1;rw[if_neg (by simp only;omega),if_neg (by simp only;omega),if_neg (by simp only;omega),if_neg (by simp only;omega),if_neg (by simp only;omega),if_neg (by simp only;omega),if_neg (by simp only;omega),if_neg (by simp only;omega),if_neg (by simp only;omega)])
 have cV:=hid (fun w1 (h:Kept w w1)=>acS vg o n a.k a.e a.n b.k b.e b.n aL bD gG jt w1 (br.kept h));rw[show ng ⟨oH,vg⟩ ⟨o,n⟩ ⟨a.k,a.e,a.n⟩ ⟨b.k,b.e,b.n⟩=e1 ca ⟨o,n⟩ [a,b] E from aI.out.symm]at cV;obtain⟨R,aw⟩:∃R,R=e1 ca ⟨o,n⟩ [a,b] E:=⟨_,rfl⟩;rw[←aw]at cV⊢;clear aw aI;obtain⟨⟨eX,gw,dw⟩,rc⟩:=R;unfold vcV at cV;obtain⟨x3,x4,x5,x6,x7,eE,mx,fv,fg,JY,DQ,DR,DS,DT,Bx,Gw⟩:(o==1)=false∧(o==2)=false∧(o==3)=false∧(o==4)=false∧(o==5)=false∧(o==6)=false∧(o==7)=false∧(o==8)=false∧(o==9)=false∧(o==35)=false∧(o==36)=false∧(o==37)=false∧(o==38)=false∧(o==39)=false∧(o==33)=false∧(o==34)=false:=by refine⟨?_,?_,?_,?_,?_,?_,?_,?_,?_,?_,?_,?_,?_,?_,?_,?_⟩<;>(simp;omega)
 clear I U ae aJ bp aX aL aK br bD gG jt he;obtain⟨dt,ins,ds,ms,mt,tb⟩:=E;dsimp only at*;go_enter func144,ntmps144
 go_upto_region 36 with fail
 generalize ar:((w.alloc _).alloc _).alloc _=W at*;obtain⟨aF,a_,aS,aT⟩:=Kept.b7 ar;clear ar;obtain⟨dL,cA⟩:=a_.p;obtain⟨dq,a7⟩:=aS.p;obtain⟨dR,bx,vS⟩:=aT.q;have z0:=al.cell a_.lt (a_.cell 0);have e6:=al.cell a_.lt (a_.cell 1);have gd:=al.cell (bd J aF.size) (aF.ad J bZ);have hO:=al.cell (bd J aF.size) (aF.ad J b3);have iv:=al.cell (bd J aF.size) (aF.ad J cT);have wK:=al.cell (bd J aF.size) (aF.ad J e3);have Bu:=al.cell (bd J aF.size) (aF.ad J ee);have Gr:=al.cell (bd J aF.size) (aF.ad J fW)
 (try simp only[Nat.zero_mul,Nat.one_mul,Nat.add_zero]at gd hO iv wK Bu Gr)
 clear bZ b3 cT e3 ee fW dL dq dR vS cA a7 bx;refine v8 10 (by kernel_rfl) (by kernel_rfl) ?_;simp only[List.take_succ_cons,List.take_zero,List.drop_succ_cons,List.drop_zero]
 repeat (go_big_quiet_step ((go_at_call 168;exact al.call (cV.out _ (aF.trans (al.h _))))))
 refine wpQuiet_nil ?_;rintro w2 ⟨⟨bt,cj⟩,bb⟩;obtain rfl:w2=bt:=bb;have cm:=aT.kept cj;obtain⟨vh,vj,vi⟩:=cm.q;go_wp2_with fail
 have Z:=(((cm.aP 0 (.int .i64 (eX))).aP 1 (.int .i64 (gw))).aP 2 (.int .i64 (dw))).cell;exact bodyPost_ret (v:= .tuple #[.agg #[eX,gw,dw],rc]) (by simp[results,results144,go_sem,Z]) rfl ⟨rfl,(by with_reducible repeat first|exact .refl _|assumption|refine .drew ?_|refine .alloc ?_ _|refine .setCell ?_ (by (try simp only);omega) _|refine .trans ?_ ‹Kept _ _›)⟩
theorem adz (o n:Int) (c0 bE:Value) (args:List bg) (E:dC) (w:World) (aX:hl w bE E) (a:bg) (aZ:args=[a]) (aK:ff w c0 args) (aL:o=33) (hex:lL n E.tb.length=true):Calls prog 144 #[.agg #[o,n],c0,bE] w (fN (e1 ca ⟨o,n⟩ args E) w):=by
 unfold fN;obtain⟨cl,aC,cM,aM,cX,a1,ef,bN,dk,bJ,rfl,I,U,ae,aJ,bp⟩:=aX.open_;subst aZ;obtain⟨uJ,oo,rfl,-⟩:=aK.at_;obtain⟨b,off,rfl,J,bZ,b3,cT⟩:=aK.get (k:=0) rfl;obtain⟨k,T,rfl,jI,bl⟩:=wU hex;obtain⟨c9,Rv,rfl,hW,⟨t0,-⟩,⟨t1,-⟩,⟨t2,-⟩,⟨t3,-⟩,⟨t4,-⟩,⟨_,t5,k0⟩⟩:=bp.get bl;obtain⟨mU,ou,QF,-,-,EH⟩:=k0.at_;subst QF;have aI:=hid (show e1 ca ⟨o,k⟩ [a] E=(match T.rows.find? (s9 E.dt a.n)with
  |none=>(v0,6)
  |some r=>(⟨T.cy,T.bE,r.n⟩,0)) by
  unfold e1;rw[if_neg (by simp only;omega),if_neg (by simp only;omega),if_neg (by simp only;omega),if_neg (by simp only;omega),if_neg (by simp only;omega),if_neg (by simp only;omega),if_neg (by simp only;omega),if_pos (by simp only;omega)];simp only[Int.toNat_natCast,bl,Option.getD_some,List.getElem?_cons_zero]
  cases T.rows.find? (s9 E.dt a.n)<;>rfl)
 obtain⟨R,aw⟩:∃R,R=e1 ca ⟨o,k⟩ [a] E:=⟨_,rfl⟩;rw[←aw]at aI⊢;clear aw;obtain⟨⟨eX,gw,dw⟩,rc⟩:=R;obtain⟨x3,x4,x5,x6,x7,eE,mx,fv,fg,JY,DQ,DR,DS,DT,kW⟩:(o==1)=false∧(o==2)=false∧(o==3)=false∧(o==4)=false∧(o==5)=false∧(o==6)=false∧(o==7)=false∧(o==8)=false∧(o==9)=false∧(o==35)=false∧(o==36)=false∧(o==37)=false∧(o==38)=false∧(o==39)=false∧(o==33)=true:=by refine⟨?_,?_,?_,?_,?_,?_,?_,?_,?_,?_,?_,?_,?_,?_,?_⟩<;>(simp;omega)
 obtain⟨ag,d_,eo,cy,r',rows⟩:=T;obtain⟨b9,cL,an⟩:=a;unfold ed at t0 t1 t2 t3 t4 t5;have cV:=hid (fun w1 (h:Kept w w1)=>agJ ag d_ eo cy r' _ rows E.dt an w1 (k0.kept jZ.kept h));unfold ya at cV;have bO:=VK (p:=s9 E.dt an) rows [];clear I U ae aJ bp aX aL aK hex bl;obtain⟨dt,ins,ds,ms,mt,tb⟩:=E;dsimp only at*;go_enter func144,ntmps144
 go_upto_region 1 with fail
 generalize ar:((w.alloc _).alloc _).alloc _=W at*;obtain⟨aF,a_,aS,aT⟩:=Kept.b7 ar;clear ar;obtain⟨dL,cA⟩:=a_.p;obtain⟨dq,a7⟩:=aS.p;obtain⟨dR,bx,vS⟩:=aT.q;have DG:=aF.ad hW t0;have nP:=aF.ad hW t1;have mw:=aF.ad hW t2;have oj:=aF.ad hW t3;have DH:=aF.ad hW t4;have DI:=aF.ad hW t5;have fO:=bd J aF.size;have WZ:=bd hW aF.size;clear t0 t1 t2 t3 t4 t5;have qc:=hid aT;go_upto_region 25 with fail
 have BT:=ao.new W 60 #[ag,d_,eo,cy,r',.slice mU rows.length ou];have bB:Kept w (W.alloc (.cells #[ag,d_,eo,cy,r',.slice mU rows.length ou] 60)):=(by with_reducible repeat first|exact .refl _|assumption|refine .drew ?_|refine .alloc ?_ _|refine .setCell ?_ (by (try simp only);omega) _|refine .trans ?_ ‹Kept _ _›);have cr:=aS.alloc (.cells #[ag,d_,eo,cy,r',.slice mU rows.length ou] 60);have c2:=aT.alloc (.cells #[ag,d_,eo,cy,r',.slice mU rows.length ou] 60);clear DG nP mw oj DH DI;generalize W.alloc (.cells #[ag,d_,eo,cy,r',.slice mU rows.length ou] 60)=ct at*;have iv:=al.cell (bd J bB.size) (bB.ad J cT);have z0:=al.cell BT.lt (BT.cell 0);have e6:=al.cell BT.lt (BT.cell 1);have z2:=al.cell BT.lt (BT.cell 2);have z3:=al.cell BT.lt (BT.cell 3);have z4:=al.cell BT.lt (BT.cell 4);have z5:=al.cell BT.lt (BT.cell 5);have u0:=al.cell cr.lt (cr.cell 0)
 (try simp only[Nat.zero_mul,Nat.add_zero]at iv)
 clear bZ b3 cT dL dq dR vS cA a7 bx a_ aS aT
 cases au:nk (s9 dt an) rows 0
 case none=>
  rw[List.length_nil,au]at bO;have aX:=aI.out;simp only at bO;rw[bO]at aX;obtain⟨rfl,rfl,rfl,rfl⟩:=h7 aX;rw[au]at cV;unfold E8 at cV;clear aX bO au;refine fQ (by kernel_rfl) (by kernel_rfl) ?_
  repeat (go_big_quiet_step ((go_at_call 165;exact al.call (cV.out _ (bB.trans (al.h _))))))
  refine wpQuiet_nil ?_;rintro w2 ⟨⟨bt,cj⟩,bb⟩;obtain rfl:w2=bt:=bb;have cm:=c2.kept cj;obtain⟨vh,vj,vi⟩:=cm.q;go_wp2_with fail
  have Z:=(((cm.aP 0 ()).aP 1 ()).aP 2 ()).cell;exact bodyPost_ret (v:= .tuple #[.agg #[(),(),()],.int .i64 6]) (by simp[results,results144,go_sem,Z]) rfl ⟨rfl,(by with_reducible repeat first|exact .refl _|assumption|refine .drew ?_|refine .alloc ?_ _|refine .setCell ?_ (by (try simp only);omega) _|refine .trans ?_ ‹Kept _ _›)⟩
 case some q=>
  rw[List.length_nil,au]at bO;obtain⟨r,n0,ig⟩:=bO;rw[List.nil_append]at n0;have aX:=aI.out;rw[ig]at aX;obtain⟨rfl,rfl,rfl,rfl⟩:=h7 aX;rw[au]at cV;unfold E8 at cV;have rR:(q:Int)<rows.length:=by have:=(b8 n0).1;omega
  obtain⟨eE,amt,rfl,WX,X4⟩:=EH (by have:=(b8 n0).1;omega);obtain⟨-,-,-,-,⟨L9,-⟩⟩:=X4 q r n0;unfold ed at L9;clear aX au ig X4 n0 EH;refine fQ (by kernel_rfl) (by kernel_rfl) ?_
  repeat (go_big_quiet_step ((go_at_call 165;exact al.call (cV.out _ (bB.trans (al.h _))))))
  refine wpQuiet_nil ?_;rintro w2 ⟨⟨bt,cj⟩,bb⟩;obtain rfl:w2=bt:=bb;have bR:=bB.trans cj;have cm:=c2.kept cj;have CW:=BT.kept cj;have r4':=al.cell (bd WX bR.size) (bR.ad WX L9);clear z0 e6 z2 z3 z4 z5 iv u0 L9;have mS:=al.cell CW.lt (CW.cell 3);have td:=al.cell CW.lt (CW.cell 4);have MJ:=al.cell CW.lt (CW.cell 5);go_upto_region 28 with fail
  refine v8 13 (by kernel_rfl) (by kernel_rfl) ?_;simp only[List.take_succ_cons,List.take_zero,List.drop_succ_cons,List.drop_zero]
  repeat (go_big_quiet_step (fail))
  refine wpQuiet_nil ?_;rintro w2 ⟨⟨bt,cj⟩,bb⟩;obtain rfl:w2=bt:=bb;have lC:=cm.kept cj;obtain⟨e2c,e2l,e2f⟩:=lC.q;go_wp2_with fail
  have Z:=(((lC.aP 0 (.int .i64 (eX))).aP 1 (.int .i64 (gw))).aP 2 (.int .i64 (r.n))).cell;exact bodyPost_ret (v:= .tuple #[.agg #[eX,gw,r.n],()]) (by simp[results,results144,go_sem,Z]) rfl ⟨rfl,(by with_reducible repeat first|exact .refl _|assumption|refine .drew ?_|refine .alloc ?_ _|refine .setCell ?_ (by (try simp only);omega) _|refine .trans ?_ ‹Kept _ _›)⟩
theorem adA (o n:Int) (c0 bE:Value) (args:List bg) (E:dC) (w:World) (aX:hl w bE E) (a:bg) (aZ:args=[a]) (aK:ff w c0 args) (aL:o=34) (aA:0≤n∧n≤9223372036854775807) (Cc:n% 8≤5) (hex:n/8<E.tb.length) (mC: -1000000000000000≤a.n∧a.n≤1000000000000000) (Yh:∀T,E.tb[(n/8).toNat]?=some T→T.d_=3∧T.eo=0∧T.cy=4∧T.bE=0):Calls prog 144 #[.agg #[o,n],c0,bE] w (fN (e1 ca ⟨o,n⟩ args E) w):=by
 unfold fN;obtain⟨cl,aC,cM,aM,cX,a1,ef,bN,dk,bJ,rfl,I,U,ae,aJ,bp⟩:=aX.open_;subst aZ;obtain⟨uJ,oo,rfl,-⟩:=aK.at_;obtain⟨b,off,rfl,J,bZ,b3,cT⟩:=aK.get (k:=0) rfl;obtain⟨k,T,yp,jI,bl⟩:=wU (xs:=E.tb) (n:=n/8) (by unfold lL;exact decide_eq_true ⟨by omega,hex⟩);have Yi:=Yh T (by rw[yp];exact bl);obtain⟨c9,Rv,rfl,hW,⟨t0,-⟩,⟨t1,-⟩,⟨t2,-⟩,⟨t3,-⟩,⟨t4,-⟩,⟨_,t5,k0⟩⟩:=bp.get bl;obtain⟨mU,ou,QF,-⟩:=k0.at_;subst QF;obtain⟨m,hm⟩:∃m,m=n% 8:=⟨_,rfl⟩;have aI:=hid (show e1 ca ⟨o,n⟩ [a] E=(⟨3,0,(vg T E.dt a.n m).1⟩,(vg T E.dt a.n m).2) by
  unfold e1;rw[if_neg (by simp only;omega),if_neg (by simp only;omega),if_neg (by simp only;omega),if_neg (by simp only;omega),if_neg (by simp only;omega),if_neg (by simp only;omega),if_neg (by simp only;omega),if_neg (by simp only;omega),if_pos (by simp only;omega)];simp only[yp,Int.toNat_natCast,bl,Option.getD_some,List.getElem?_cons_zero,←hm];rfl)
 obtain⟨R,aw⟩:∃R,R=e1 ca ⟨o,n⟩ [a] E:=⟨_,rfl⟩;rw[←aw]at aI⊢;clear aw;obtain⟨⟨eX,gw,dw⟩,rc⟩:=R;obtain⟨x3,x4,x5,x6,x7,eE,mx,fv,fg,JY,DQ,DR,DS,DT,Bx,kW⟩:(o==1)=false∧(o==2)=false∧(o==3)=false∧(o==4)=false∧(o==5)=false∧(o==6)=false∧(o==7)=false∧(o==8)=false∧(o==9)=false∧(o==35)=false∧(o==36)=false∧(o==37)=false∧(o==38)=false∧(o==39)=false∧(o==33)=false∧(o==34)=true:=by refine⟨?_,?_,?_,?_,?_,?_,?_,?_,?_,?_,?_,?_,?_,?_,?_,?_⟩<;>(simp;omega)
 have cV:=hid (fun w1 (h:Kept w w1)=>ac0 T.ag _ T.rows E.dt a.n m w1 (k0.kept jZ.kept h) ⟨by omega,by omega⟩ mC T rfl);obtain⟨z,ck⟩:∃z,z=vg T E.dt a.n m:=⟨_,rfl⟩;rw[←ck]at cV aI;obtain⟨e6,z2⟩:=z;obtain⟨rfl,rfl,rfl,rfl⟩:=h7 aI.out;obtain⟨ag,d_,eo,cy,r',rows⟩:=T;dsimp only at Yi;obtain⟨rfl,rfl,rfl,rfl⟩:=Yi;obtain⟨b9,cL,an⟩:=a;unfold ed at t0 t1 t2 t3 t4 t5;have Yf:n.tdiv 8=k:=by rw[Int.tdiv_eq_ediv_of_nonneg aA.1];exact yp
 have Yg:n.tmod 8=m:=by rw[Int.tmod_eq_emod_of_nonneg aA.1];exact hm.symm
 obtain⟨hY,en⟩:=aA;have P':(k:Int)≤n:=by omega
 clear I U ae aJ bp aX aL aK hex bl Yh ck hm Cc aI yp;obtain⟨dt,ins,ds,ms,mt,tb⟩:=E;dsimp only at*;go_enter func144,ntmps144
 go_upto_region 30 with fail
 generalize ar:((w.alloc _).alloc _).alloc _=W at*;obtain⟨aF,a_,aS,aT⟩:=Kept.b7 ar;clear ar;obtain⟨dL,cA⟩:=a_.p;obtain⟨dq,a7⟩:=aS.p;obtain⟨dR,bx,vS⟩:=aT.q;have DG:=al.cell (bd hW aF.size) (aF.ad hW t0);have nP:=al.cell (bd hW aF.size) (aF.ad hW t1);have mw:=al.cell (bd hW aF.size) (aF.ad hW t2);have oj:=al.cell (bd hW aF.size) (aF.ad hW t3);have DH:=al.cell (bd hW aF.size) (aF.ad hW t4);have DI:=al.cell (bd hW aF.size) (aF.ad hW t5);have iv:=al.cell (bd J aF.size) (aF.ad J cT);have z1':=al.cell a_.lt (a_.cell 1);have u0:=al.cell aS.lt (aS.cell 0);have u5:=al.cell aS.lt (aS.cell 5);have Yw:wrap64 (k:Int)=k:=by unfold wrap64;omega
 have amk:IntKind.i64.wrap (k:Int)=k:=by obtain⟨q,_,az,a6⟩:=yY (k:Int);rw[az,←a6,Yw]
 (try simp only[Nat.zero_mul,Nat.add_zero]at iv)
 clear bZ b3 cT dL dq dR vS cA a7 bx t0 t1 t2 t3 t4 t5;refine fQ (by kernel_rfl) (by kernel_rfl) ?_
 repeat (go_big_quiet_step ((go_at_call 166;exact al.call (cV.out _ (aF.trans (al.h _))))))
 refine wpQuiet_nil ?_;rintro w2 ⟨⟨bt,cj⟩,bb⟩;obtain rfl:w2=bt:=bb;have cm:=aT.kept cj;obtain⟨vh,vj,vi⟩:=cm.q;clear DG nP mw oj DH DI iv z1' u0 u5;go_wp2_with fail
 have Z:=(((cm.aP 0 (.int .i64 (3))).aP 1 ()).aP 2 (.int .i64 (dw))).cell;exact bodyPost_ret (v:= .tuple #[.agg #[.int .i64 3,(),dw],rc]) (by simp[results,results144,go_sem,Z]) rfl ⟨rfl,(by with_reducible repeat first|exact .refl _|assumption|refine .drew ?_|refine .alloc ?_ _|refine .setCell ?_ (by (try simp only);omega) _|refine .trans ?_ ‹Kept _ _›)⟩
theorem akv (o n:Int) (a:Nat) (aZ:dY o=a) (w:World):Calls prog 140 #[.agg #[o,n]] w fun x w'=>x= .returned (.bool (v7 ⟨o,n⟩))∧Kept w w':=by
 have kd:=fun w=>abe o w;obtain⟨q,au⟩:∃q,q=yV o:=⟨_,rfl⟩;rw[←au]at kd;have aK:=fun w=>DM o w;rw[aZ]at aK;have xN:=hid kd;have dW:=hid aK;have aI:=hid (show v7 ⟨o,n⟩=decide ((n=0∨q=true)∧(14≤o→o≤16→0≤n∧n≤5)∧(o=34→0≤n∧n% 8≤5)∧(o=6→0≤n)) by
  unfold v7;rw[decide_eq_decide,au];simp only[aZ];constructor
  ·rintro⟨_,h⟩;exact h
  ·intro h;exact⟨by omega,h⟩)
 clear kd aK aZ au;have AZ:=hid (fun h:0≤n=>Int.tmod_eq_emod_of_nonneg (a:=n) (b:=8) h);rcases (show n=0∨(¬n=0∧q=true)∨(¬n=0∧q=false) by cases q<;>simp<;>omega)with ck|⟨ck,au⟩|⟨ck,au⟩
 all_goals
  (try (subst ck))
  (try (subst au))
  go_enter func140,ntmps140
  go_wp2_with (first|(go_at_call 138;refine (dW.out _).mono ?_;rintro y w1 ⟨rfl,rfl⟩)|(go_at_call 158;refine (xN.out _).mono ?_;rintro y w1 ⟨rfl,rfl⟩))
  all_goals
   go_ret;have aw:=aI.out;have aX:=AZ.out;clear xN dW aI AZ;exact⟨eD (by rw[aw];clear aw;rw[Bool.eq_iff_iff];(try simp at*);(try omega)),(by with_reducible repeat first|exact .refl _|assumption|refine .drew ?_|refine .alloc ?_ _|refine .setCell ?_ (by (try simp only);omega) _|refine .trans ?_ ‹Kept _ _›)⟩
theorem Ut {o:Int} (h:dY o=0):(1≤o∧o≤9)∨(35≤o∧o≤39):=by
 unfold dY at h;split at h
 ·assumption
 ·split at h
  ·omega
  ·split at h
   ·omega
   ·split at h<;>omega
theorem Uu {o:Int} (h:dY o=1):o=10∨o=25∨o=31∨o=32∨o=33∨o=34:=by
 unfold dY at h;split at h
 ·omega
 ·split at h
  ·assumption
  ·split at h
   ·omega
   ·split at h<;>omega
theorem Uv {o:Int} (h:dY o=2):(11≤o∧o≤24)∨(27≤o∧o≤30):=by
 unfold dY at h;split at h
 ·omega
 ·split at h
  ·omega
  ·split at h
   ·omega
   ·split at h<;>omega
theorem Uw {o:Int} (h:dY o=3):o=26:=by
 unfold dY at h;split at h
 ·omega
 ·split at h
  ·omega
  ·split at h
   ·assumption
   ·split at h<;>omega
theorem acu (o n:Int) (c0 bE:Value) (args:List bg) (E:dC) (w:World) (aX:hl w bE E) (aK:ff w c0 args) (aq:(args.length:Int)=dY o) (aA:gT n) (aL:o≠23∧o≠24∧o≠26) (hw:v7 ⟨o,n⟩=true) (af:qB ⟨o,n⟩ E=true):
  Calls prog 143 #[.agg #[o,n],c0,bE] w (om (gO ⟨o,n⟩ args E) w):=by
 have pW:(14≤o→o≤16→0≤n∧n≤5)∧(o=34→0≤n∧n% 8≤5)∧(o=6→0≤n):=by unfold v7 at hw;simp only[decide_eq_true_eq]at hw;exact hw.2.2
 unfold qB at af;match args,aq,aK with
 |[],aq,aK=>
  rcases Ut aq.symm with h|h
  ·by_cases kc:o=7
   ·simp only[kc,if_true]at af;exact acn o n c0 bE [] E w aX kc (by simpa using af)
   ·by_cases et:o=8
    ·simp only at af;rw[if_neg kc,if_pos et,Bool.and_eq_true]at af;exact aco o n c0 bE [] E w aX et af.1
    ·exact Uq o n c0 bE [] E w aX rfl aK (by omega)
  ·by_cases zT:o=35
   ·exact Uq o n c0 bE [] E w aX rfl aK (by omega)
   ·simp only at af;rw[if_neg (by omega),if_neg (by omega),if_neg (by omega),if_neg (by omega),if_pos (by omega)]at af;exact acp o n c0 bE [] E w aX (by omega) af
 |[a],aq,aK=>
  rcases Uu aq.symm with h|h|h|h|h|h
  ·exact JV o n c0 bE _ E w aX a rfl aK (by omega)
  ·exact JV o n c0 bE _ E w aX a rfl aK (by omega)
  ·exact JV o n c0 bE _ E w aX a rfl aK (by omega)
  ·exact JV o n c0 bE _ E w aX a rfl aK (by omega)
  ·simp only at af;rw[if_neg (by omega),if_neg (by omega),if_pos h]at af;exact ack o n c0 bE _ E w aX a rfl aK h af
  ·simp only at af;rw[if_neg (by omega),if_neg (by omega),if_neg (by omega),if_pos h]at af;exact acm o n c0 bE _ E w aX a rfl aK h ⟨(pW.2.1 h).1,aA.2⟩ (of_decide_eq_true af)
 |[a,b],aq,aK=>exact acj o n c0 bE _ E w aX a b rfl aK (by have:=Uv aq.symm;omega)
 |[_,_,_],aq,_=>exact absurd (Uw aq.symm) aL.2.2
 |_::_::_::_::_,aq,_=>exact absurd aq (by have:=(zI o).2;simp only[List.length_cons];omega)
theorem adT (o n:Int) (c0 bE:Value) (args:List bg) (E:dC) (w:World) (aX:hl w bE E) (aK:ff w c0 args) (aq:(args.length:Int)=dY o) (aA:gT n) (aL:o≠23∧o≠24∧o≠26) (hw:v7 ⟨o,n⟩=true) (af:qB ⟨o,n⟩ E=true)
  (hp:args.all gH=true) (aZ:gO ⟨o,n⟩ args E=true) (br:Mon w):Calls prog 144 #[.agg #[o,n],c0,bE] w (fN (e1 ca ⟨o,n⟩ args E) w):=by
 have pW:(14≤o→o≤16→0≤n∧n≤5)∧(o=34→0≤n∧n% 8≤5)∧(o=6→0≤n):=by unfold v7 at hw;simp only[decide_eq_true_eq]at hw;exact hw.2.2
 unfold qB at af;unfold gO at aZ;match args,aq,aK,hp,aZ with
 |[],aq,aK,_,_=>
  rcases Ut aq.symm with h|h
  ·by_cases kc:o=7
   ·simp only[kc,if_true]at af;exact adD o n c0 bE [] E w aX kc (by simpa using af)
   ·by_cases et:o=8
    ·simp only at af;rw[if_neg kc,if_pos et,Bool.and_eq_true]at af;exact adE o n c0 bE [] E w aX et af.1
    ·by_cases eJ:o=6
     ·exact adC o n c0 bE [] E w aX eJ ⟨pW.2.2 eJ,aA.2⟩
     ·by_cases tT:o=9
      ·exact adF o n c0 bE [] E w aX tT
      ·exact adG o n c0 bE [] E w aX (by omega)
  ·by_cases zT:o=35
   ·exact adB o n c0 bE [] E w aX zT
   ·simp only at af;rw[if_neg (by omega),if_neg (by omega),if_neg (by omega),if_neg (by omega),if_pos (by omega)]at af;exact adH o n c0 bE [] E w aX (by omega) af
 |[a],aq,aK,hp,aZ=>
  have bD:gH a=true:=by simpa using hp
  rcases Uu aq.symm with h|h|h|h|h|h
  ·exact Kc o n c0 bE _ E w aX a rfl aK (by omega) bD br
  ·exact Kc o n c0 bE _ E w aX a rfl aK (by omega) bD br
  ·exact Kc o n c0 bE _ E w aX a rfl aK (by omega) bD br
  ·exact Kc o n c0 bE _ E w aX a rfl aK (by omega) bD br
  ·simp only at af;rw[if_neg (by omega),if_neg (by omega),if_pos h]at af;exact adz o n c0 bE _ E w aX a rfl aK h af
  ·simp only at af aZ;rw[if_neg (by omega),if_neg (by omega),if_neg (by omega),if_pos h]at af aZ;have J:=AE bD;refine adA o n c0 bE _ E w aX a rfl aK h ⟨(pW.2.1 h).1,aA.2⟩ (pW.2.1 h).2 (of_decide_eq_true af) ⟨J.1,J.2.1⟩ (fun T bl=> ?_);rw[bl]at aZ;simp only[Option.getD_some,Bool.and_eq_true,decide_eq_true_eq]at aZ;exact⟨aZ.2.1.1,aZ.2.1.2,aZ.2.2.1,aZ.2.2.2⟩
 |[a,b],aq,aK,hp,aZ=>
  have U:=Uv aq.symm;simp only[List.all_cons,List.all_nil,Bool.and_true,Bool.and_eq_true]at hp;simp only at aZ;rw[if_neg (by omega),if_neg (by omega),if_neg (by omega),if_neg (by omega),if_neg (by omega)]at aZ;exact ady o n c0 bE _ E w aX a b rfl aK (by omega) hp.1 hp.2 aZ br
 |[_,_,_],aq,_,_,_=>exact absurd (Uw aq.symm) aL.2.2
 |_::_::_::_::_,aq,_,_,_=>exact absurd aq (by have:=(zI o).2;simp only[List.length_cons];omega)
theorem acE (o n:Int) (c0 bE:Value) (args:List bg) (E:dC) (w:World) (aX:hl w bE E) (aK:ff w c0 args) (aq:(args.length:Int)=dY o) (aA:gT n) (aL:o≠23∧o≠24∧o≠26) (br:Mon w):
  Calls prog 111 #[.agg #[o,n],c0,bE] w (fN (pD ca ⟨o,n⟩ args E) w):=by
 have xO:=hid (fun w=>akv o n args.length aq.symm w);have mV:=hid (fun w=>(by rw[aq];exact DM o w:Calls prog 138 #[o] w fun e w'=>e= .returned (.int .i64 (args.length:Int))∧w=w'));have q7:=hid (fun w1 (h:Kept w w1)=>acq c0 args w1 (aK.kept h) (by have:=(zI o).2;omega));have gq:pD ca ⟨o,n⟩ args E=if v7 ⟨o,n⟩=false then (v0,2)
  else if qB ⟨o,n⟩ E=false then (v0,6)
  else if args.all gH=false∨gO ⟨o,n⟩ args E=false then (v0,8)
  else if (e1 ca ⟨o,n⟩ args E).2≠0 then (v0,(e1 ca ⟨o,n⟩ args E).2)
  else if gH (e1 ca ⟨o,n⟩ args E).1=false then (v0,3)
  else ((e1 ca ⟨o,n⟩ args E).1,0):=by
  unfold pD;have:((args.length:Int)≠dY o)=False:=by rw[aq];simp
  simp only[this,or_false]
 have kP:=hid (fun w1 (h:Kept w w1)=>aX.kept h);have SY:=hid (fun w1 (h:Kept w w1)=>aK.kept h);obtain⟨cl,aC,cM,aM,cX,a1,ef,bN,dk,bJ,rfl,-⟩:=aX.open_;obtain⟨uJ,oo,rfl,-⟩:=aK.at_;obtain⟨R,aw⟩:∃R,R=pD ca ⟨o,n⟩ args E:=⟨_,rfl⟩;rw[←aw]at gq⊢;clear aw;obtain⟨⟨eX,gw,dw⟩,rc⟩:=R;unfold fN;have lk:((args.length:Int) !=args.length)=false:=by simp
 cases me:v7 ⟨o,n⟩
 case false=>
  rw[me,if_pos rfl]at gq;obtain⟨rfl,rfl,rfl,rfl⟩:=h7 gq;rw[me]at xO;clear aX aK gq me;go_enter func111,ntmps111
  go_wp2_with (go_at_call 140;refine (xO.out _).mono ?_;rintro y w1 ⟨rfl,ak⟩;obtain⟨cx,gQ⟩:=Kept.cells ak;have cb:=ak.size;(try simp at cb);have:w.heap.size<w1.heap.size:=(by omega);have:w.heap.size+1<w1.heap.size:=(by omega);have:w.heap.size+1+1<w1.heap.size:=(by omega))
  exact bodyPost_ret (v:= .tuple #[.agg #[(),(),()],.int .i64 2]) (by simp[results,results111,go_sem, *]) rfl ⟨rfl,(by with_reducible repeat first|exact .refl _|assumption|refine .drew ?_|refine .alloc ?_ _|refine .setCell ?_ (by (try simp only);omega) _|refine .trans ?_ ‹Kept _ _›)⟩
 case true=>
  rw[if_neg (by rw[me];decide)]at gq;rw[me]at xO;have sj:=hid (fun w1 (h:Kept w w1)=>aes o n _ E w1 (aX.kept h) aA (fun h34=>by unfold v7 at me;simp only[decide_eq_true_eq]at me;exact (me.2.2.2.1 h34).1))
  cases hex:qB ⟨o,n⟩ E
  case false=>
   rw[if_pos hex]at gq;obtain⟨rfl,rfl,rfl,rfl⟩:=h7 gq;rw[hex]at sj;clear aX aK gq me hex;go_enter func111,ntmps111
   go_wp2_with (first|(go_at_call 140;refine (xO.out _).mono ?_;rintro y w1 ⟨rfl,ak⟩;obtain⟨cx,gQ⟩:=Kept.cells ak;have cb:=ak.size;(try simp at cb);have:w.heap.size<w1.heap.size:=(by omega);have:w.heap.size+1<w1.heap.size:=(by omega);have:w.heap.size+1+1<w1.heap.size:=(by omega))|(go_at_call 138;refine (mV.out _).mono ?_;rintro y dI ⟨rfl,rfl⟩)|(go_at_call 141;refine (sj.out _ (by with_reducible repeat first|exact .refl _|assumption|refine .drew ?_|refine .alloc ?_ _|refine .setCell ?_ (by (try simp only);omega) _|refine .trans ?_ ‹Kept _ _›)).mono ?_;rintro y w2 ⟨rfl,a'⟩;obtain⟨fE,nY⟩:=Kept.cells a';have eu:=a'.size;(try simp at eu);have:w.heap.size<w2.heap.size:=(by omega);have:w.heap.size+1<w2.heap.size:=(by omega);have:w.heap.size+1+1<w2.heap.size:=(by omega)))
   exact bodyPost_ret (v:= .tuple #[.agg #[(),(),()],.int .i64 6]) (by simp[results,results111,go_sem, *]) rfl ⟨rfl,(by with_reducible repeat first|exact .refl _|assumption|refine .drew ?_|refine .alloc ?_ _|refine .setCell ?_ (by (try simp only);omega) _|refine .trans ?_ ‹Kept _ _›)⟩
  case true=>
   rw[if_neg (by rw[hex];decide)]at gq;rw[hex]at sj
   cases mF:args.all gH
   case false=>
    rw[if_pos (.inl mF)]at gq;obtain⟨rfl,rfl,rfl,rfl⟩:=h7 gq;rw[mF]at q7;clear aX aK gq me hex mF;go_enter func111,ntmps111
    go_wp2_with (first|(go_at_call 140;refine (xO.out _).mono ?_;rintro y w1 ⟨rfl,ak⟩;obtain⟨cx,gQ⟩:=Kept.cells ak;have cb:=ak.size;(try simp at cb);have:w.heap.size<w1.heap.size:=(by omega);have:w.heap.size+1<w1.heap.size:=(by omega);have:w.heap.size+1+1<w1.heap.size:=(by omega))|(go_at_call 138;refine (mV.out _).mono ?_;rintro y dI ⟨rfl,rfl⟩)|(go_at_call 141;refine (sj.out _ (by with_reducible repeat first|exact .refl _|assumption|refine .drew ?_|refine .alloc ?_ _|refine .setCell ?_ (by (try simp only);omega) _|refine .trans ?_ ‹Kept _ _›)).mono ?_;rintro y w2 ⟨rfl,a'⟩;obtain⟨fE,nY⟩:=Kept.cells a';have eu:=a'.size;(try simp at eu);have:w.heap.size<w2.heap.size:=(by omega);have:w.heap.size+1<w2.heap.size:=(by omega);have:w.heap.size+1+1<w2.heap.size:=(by omega))|(go_at_call 142;refine (q7.out _ (by with_reducible repeat first|exact .refl _|assumption|refine .drew ?_|refine .alloc ?_ _|refine .setCell ?_ (by (try simp only);omega) _|refine .trans ?_ ‹Kept _ _›)).mono ?_;rintro y cw ⟨rfl,bw⟩;obtain⟨yk,K3⟩:=Kept.cells bw;have o6:=bw.size;(try simp at o6);have:w.heap.size<cw.heap.size:=(by omega);have:w.heap.size+1<cw.heap.size:=(by omega);have:w.heap.size+1+1<cw.heap.size:=(by omega)))
    exact bodyPost_ret (v:= .tuple #[.agg #[(),(),()],.int .i64 8]) (by simp[results,results111,go_sem, *]) rfl ⟨rfl,(by with_reducible repeat first|exact .refl _|assumption|refine .drew ?_|refine .alloc ?_ _|refine .setCell ?_ (by (try simp only);omega) _|refine .trans ?_ ‹Kept _ _›)⟩
   case true=>
    have jz:=hid (fun w1 (h:Kept w w1)=>acu o n _ _ args E w1 (kP.out _ h) (SY.out _ h) aq aA aL me hex);unfold om at jz;rw[mF]at q7
    cases js:gO ⟨o,n⟩ args E
    case false=>
     rw[if_pos (.inr js)]at gq;obtain⟨rfl,rfl,rfl,rfl⟩:=h7 gq;rw[js]at jz;clear aX aK gq me hex mF js;go_enter func111,ntmps111
     go_wp2_with (first|(go_at_call 140;refine (xO.out _).mono ?_;rintro y w1 ⟨rfl,ak⟩;obtain⟨cx,gQ⟩:=Kept.cells ak;have cb:=ak.size;(try simp at cb);have:w.heap.size<w1.heap.size:=(by omega);have:w.heap.size+1<w1.heap.size:=(by omega);have:w.heap.size+1+1<w1.heap.size:=(by omega))|(go_at_call 138;refine (mV.out _).mono ?_;rintro y dI ⟨rfl,rfl⟩)|(go_at_call 141;refine (sj.out _ (by with_reducible repeat first|exact .refl _|assumption|refine .drew ?_|refine .alloc ?_ _|refine .setCell ?_ (by (try simp only);omega) _|refine .trans ?_ ‹Kept _ _›)).mono ?_;rintro y w2 ⟨rfl,a'⟩;obtain⟨fE,nY⟩:=Kept.cells a';have eu:=a'.size;(try simp at eu);have:w.heap.size<w2.heap.size:=(by omega);have:w.heap.size+1<w2.heap.size:=(by omega);have:w.heap.size+1+1<w2.heap.size:=(by omega))|(go_at_call 142;refine (q7.out _ (by with_reducible repeat first|exact .refl _|assumption|refine .drew ?_|refine .alloc ?_ _|refine .setCell ?_ (by (try simp only);omega) _|refine .trans ?_ ‹Kept _ _›)).mono ?_;rintro y cw ⟨rfl,bw⟩;obtain⟨yk,K3⟩:=Kept.cells bw;have o6:=bw.size;(try simp at o6);have:w.heap.size<cw.heap.size:=(by omega);have:w.heap.size+1<cw.heap.size:=(by omega);have:w.heap.size+1+1<cw.heap.size:=(by omega))|(go_at_call 143;refine (jz.out _ (by with_reducible repeat first|exact .refl _|assumption|refine .drew ?_|refine .alloc ?_ _|refine .setCell ?_ (by (try simp only);omega) _|refine .trans ?_ ‹Kept _ _›)).mono ?_;rintro y eA ⟨rfl,cG⟩;obtain⟨Eh,P0⟩:=Kept.cells cG;have xd:=cG.size;(try simp at xd);have:w.heap.size<eA.heap.size:=(by omega);have:w.heap.size+1<eA.heap.size:=(by omega);have:w.heap.size+1+1<eA.heap.size:=(by omega)))
     exact bodyPost_ret (v:= .tuple #[.agg #[(),(),()],.int .i64 8]) (by simp[results,results111,go_sem, *]) rfl ⟨rfl,(by with_reducible repeat first|exact .refl _|assumption|refine .drew ?_|refine .alloc ?_ _|refine .setCell ?_ (by (try simp only);omega) _|refine .trans ?_ ‹Kept _ _›)⟩
    case true=>
     rw[if_neg (by rw[mF,js];decide)]at gq;have tp:=hid (fun w1 (h:Kept w w1)=>adT o n _ _ args E w1 (kP.out _ h) (SY.out _ h) aq aA aL me hex mF js (br.kept h));unfold fN at tp;rw[js]at jz;obtain⟨Q,cJ⟩:∃Q,Q=e1 ca ⟨o,n⟩ args E:=⟨_,rfl⟩;rw[←cJ]at gq tp;clear cJ;obtain⟨⟨qX,qW,am3⟩,kk⟩:=Q;dsimp only at gq tp;have re:=hid (fun w=>AF qX qW am3 w);clear me hex mF js;by_cases ah:kk=0
     case neg=>
      have hh:(kk !=0)=true:=by simpa using ah
      rw[if_pos ah]at gq;obtain⟨rfl,rfl,rfl,rfl⟩:=h7 gq;clear aX aK gq ah;go_enter func111,ntmps111
      go_wp2_with (first|(go_at_call 140;refine (xO.out _).mono ?_;rintro y w1 ⟨rfl,ak⟩;obtain⟨cx,gQ⟩:=Kept.cells ak;have cb:=ak.size;(try simp at cb);have:w.heap.size<w1.heap.size:=(by omega);have:w.heap.size+1<w1.heap.size:=(by omega);have:w.heap.size+1+1<w1.heap.size:=(by omega))|(go_at_call 138;refine (mV.out _).mono ?_;rintro y dI ⟨rfl,rfl⟩)|(go_at_call 141;refine (sj.out _ (by with_reducible repeat first|exact .refl _|assumption|refine .drew ?_|refine .alloc ?_ _|refine .setCell ?_ (by (try simp only);omega) _|refine .trans ?_ ‹Kept _ _›)).mono ?_;rintro y w2 ⟨rfl,a'⟩;obtain⟨fE,nY⟩:=Kept.cells a';have eu:=a'.size;(try simp at eu);have:w.heap.size<w2.heap.size:=(by omega);have:w.heap.size+1<w2.heap.size:=(by omega);have:w.heap.size+1+1<w2.heap.size:=(by omega))|(go_at_call 142;refine (q7.out _ (by with_reducible repeat first|exact .refl _|assumption|refine .drew ?_|refine .alloc ?_ _|refine .setCell ?_ (by (try simp only);omega) _|refine .trans ?_ ‹Kept _ _›)).mono ?_;rintro y cw ⟨rfl,bw⟩;obtain⟨yk,K3⟩:=Kept.cells bw;have o6:=bw.size;(try simp at o6);have:w.heap.size<cw.heap.size:=(by omega);have:w.heap.size+1<cw.heap.size:=(by omega);have:w.heap.size+1+1<cw.heap.size:=(by omega))|(go_at_call 143;refine (jz.out _ (by with_reducible repeat first|exact .refl _|assumption|refine .drew ?_|refine .alloc ?_ _|refine .setCell ?_ (by (try simp only);omega) _|refine .trans ?_ ‹Kept _ _›)).mono ?_;rintro y eA ⟨rfl,cG⟩;obtain⟨Eh,P0⟩:=Kept.cells cG;have xd:=cG.size;(try simp at xd);have:w.heap.size<eA.heap.size:=(by omega);have:w.heap.size+1<eA.heap.size:=(by omega);have:w.heap.size+1+1<eA.heap.size:=(by omega))|(go_at_call 144;refine (tp.out _ (by with_reducible repeat first|exact .refl _|assumption|refine .drew ?_|refine .alloc ?_ _|refine .setCell ?_ (by (try simp only);omega) _|refine .trans ?_ ‹Kept _ _›)).mono ?_;rintro y cf ⟨rfl,cQ⟩;obtain⟨Hl,Xe⟩:=Kept.cells cQ;have HV:=cQ.size;(try simp at HV);have:w.heap.size<cf.heap.size:=(by omega);have:w.heap.size+1<cf.heap.size:=(by omega);have:w.heap.size+1+1<cf.heap.size:=(by omega)))
      exact bodyPost_ret (v:= .tuple #[.agg #[(),(),()],_]) (by simp[results,results111,go_sem, *]) rfl ⟨rfl,(by with_reducible repeat first|exact .refl _|assumption|refine .drew ?_|refine .alloc ?_ _|refine .setCell ?_ (by (try simp only);omega) _|refine .trans ?_ ‹Kept _ _›)⟩
     subst ah;rw[if_neg (by decide)]at gq
     cases EC:gH ⟨qX,qW,am3⟩
     case false=>
      rw[if_pos EC]at gq;obtain⟨rfl,rfl,rfl,rfl⟩:=h7 gq;rw[EC]at re;clear aX aK gq EC;go_enter func111,ntmps111
      go_wp2_with (first|(go_at_call 140;refine (xO.out _).mono ?_;rintro y w1 ⟨rfl,ak⟩;obtain⟨cx,gQ⟩:=Kept.cells ak;have cb:=ak.size;(try simp at cb);have:w.heap.size<w1.heap.size:=(by omega);have:w.heap.size+1<w1.heap.size:=(by omega);have:w.heap.size+1+1<w1.heap.size:=(by omega))|(go_at_call 138;refine (mV.out _).mono ?_;rintro y dI ⟨rfl,rfl⟩)|(go_at_call 141;refine (sj.out _ (by with_reducible repeat first|exact .refl _|assumption|refine .drew ?_|refine .alloc ?_ _|refine .setCell ?_ (by (try simp only);omega) _|refine .trans ?_ ‹Kept _ _›)).mono ?_;rintro y w2 ⟨rfl,a'⟩;obtain⟨fE,nY⟩:=Kept.cells a';have eu:=a'.size;(try simp at eu);have:w.heap.size<w2.heap.size:=(by omega);have:w.heap.size+1<w2.heap.size:=(by omega);have:w.heap.size+1+1<w2.heap.size:=(by omega))|(go_at_call 142;refine (q7.out _ (by with_reducible repeat first|exact .refl _|assumption|refine .drew ?_|refine .alloc ?_ _|refine .setCell ?_ (by (try simp only);omega) _|refine .trans ?_ ‹Kept _ _›)).mono ?_;rintro y cw ⟨rfl,bw⟩;obtain⟨yk,K3⟩:=Kept.cells bw;have o6:=bw.size;(try simp at o6);have:w.heap.size<cw.heap.size:=(by omega);have:w.heap.size+1<cw.heap.size:=(by omega);have:w.heap.size+1+1<cw.heap.size:=(by omega))|(go_at_call 143;refine (jz.out _ (by with_reducible repeat first|exact .refl _|assumption|refine .drew ?_|refine .alloc ?_ _|refine .setCell ?_ (by (try simp only);omega) _|refine .trans ?_ ‹Kept _ _›)).mono ?_;rintro y eA ⟨rfl,cG⟩;obtain⟨Eh,P0⟩:=Kept.cells cG;have xd:=cG.size;(try simp at xd);have:w.heap.size<eA.heap.size:=(by omega);have:w.heap.size+1<eA.heap.size:=(by omega);have:w.heap.size+1+1<eA.heap.size:=(by omega))|(go_at_call 144;refine (tp.out _ (by with_reducible repeat first|exact .refl _|assumption|refine .drew ?_|refine .alloc ?_ _|refine .setCell ?_ (by (try simp only);omega) _|refine .trans ?_ ‹Kept _ _›)).mono ?_;rintro y cf ⟨rfl,cQ⟩;obtain⟨Hl,Xe⟩:=Kept.cells cQ;have HV:=cQ.size;(try simp at HV);have:w.heap.size<cf.heap.size:=(by omega);have:w.heap.size+1<cf.heap.size:=(by omega);have:w.heap.size+1+1<cf.heap.size:=(by omega))|(go_at_call 145;refine (re.out _).mono ?_;rintro y dV ⟨rfl,eW⟩;obtain⟨oX,hf6⟩:=Kept.cells eW;have QL:=eW.size;(try simp at QL);have:w.heap.size<dV.heap.size:=(by omega);have:w.heap.size+1<dV.heap.size:=(by omega);have:w.heap.size+1+1<dV.heap.size:=(by omega)))
      exact bodyPost_ret (v:= .tuple #[.agg #[(),(),()],.int .i64 3]) (by simp[results,results111,go_sem, *]) rfl ⟨rfl,(by with_reducible repeat first|exact .refl _|assumption|refine .drew ?_|refine .alloc ?_ _|refine .setCell ?_ (by (try simp only);omega) _|refine .trans ?_ ‹Kept _ _›)⟩
     case true=>
      rw[if_neg (by rw[EC];decide)]at gq;obtain⟨rfl,rfl,rfl,rfl⟩:=h7 gq;rw[EC]at re;clear aX aK gq EC;go_enter func111,ntmps111
      go_wp2_with (first|(go_at_call 140;refine (xO.out _).mono ?_;rintro y w1 ⟨rfl,ak⟩;obtain⟨cx,gQ⟩:=Kept.cells ak;have cb:=ak.size;(try simp at cb);have:w.heap.size<w1.heap.size:=(by omega);have:w.heap.size+1<w1.heap.size:=(by omega);have:w.heap.size+1+1<w1.heap.size:=(by omega))|(go_at_call 138;refine (mV.out _).mono ?_;rintro y dI ⟨rfl,rfl⟩)|(go_at_call 141;refine (sj.out _ (by with_reducible repeat first|exact .refl _|assumption|refine .drew ?_|refine .alloc ?_ _|refine .setCell ?_ (by (try simp only);omega) _|refine .trans ?_ ‹Kept _ _›)).mono ?_;rintro y w2 ⟨rfl,a'⟩;obtain⟨fE,nY⟩:=Kept.cells a';have eu:=a'.size;(try simp at eu);have:w.heap.size<w2.heap.size:=(by omega);have:w.heap.size+1<w2.heap.size:=(by omega);have:w.heap.size+1+1<w2.heap.size:=(by omega))|(go_at_call 142;refine (q7.out _ (by with_reducible repeat first|exact .refl _|assumption|refine .drew ?_|refine .alloc ?_ _|refine .setCell ?_ (by (try simp only);omega) _|refine .trans ?_ ‹Kept _ _›)).mono ?_;rintro y cw ⟨rfl,bw⟩;obtain⟨yk,K3⟩:=Kept.cells bw;have o6:=bw.size;(try simp at o6);have:w.heap.size<cw.heap.size:=(by omega);have:w.heap.size+1<cw.heap.size:=(by omega);have:w.heap.size+1+1<cw.heap.size:=(by omega))|(go_at_call 143;refine (jz.out _ (by with_reducible repeat first|exact .refl _|assumption|refine .drew ?_|refine .alloc ?_ _|refine .setCell ?_ (by (try simp only);omega) _|refine .trans ?_ ‹Kept _ _›)).mono ?_;rintro y eA ⟨rfl,cG⟩;obtain⟨Eh,P0⟩:=Kept.cells cG;have xd:=cG.size;(try simp at xd);have:w.heap.size<eA.heap.size:=(by omega);have:w.heap.size+1<eA.heap.size:=(by omega);have:w.heap.size+1+1<eA.heap.size:=(by omega))|(go_at_call 144;refine (tp.out _ (by with_reducible repeat first|exact .refl _|assumption|refine .drew ?_|refine .alloc ?_ _|refine .setCell ?_ (by (try simp only);omega) _|refine .trans ?_ ‹Kept _ _›)).mono ?_;rintro y cf ⟨rfl,cQ⟩;obtain⟨Hl,Xe⟩:=Kept.cells cQ;have HV:=cQ.size;(try simp at HV);have:w.heap.size<cf.heap.size:=(by omega);have:w.heap.size+1<cf.heap.size:=(by omega);have:w.heap.size+1+1<cf.heap.size:=(by omega))|(go_at_call 145;refine (re.out _).mono ?_;rintro y dV ⟨rfl,eW⟩;obtain⟨oX,hf6⟩:=Kept.cells eW;have QL:=eW.size;(try simp at QL);have:w.heap.size<dV.heap.size:=(by omega);have:w.heap.size+1<dV.heap.size:=(by omega);have:w.heap.size+1+1<dV.heap.size:=(by omega)))
      exact bodyPost_ret (v:= .tuple #[.agg #[eX,gw,dw],()]) (by simp[results,results111,go_sem, *]) rfl ⟨rfl,(by with_reducible repeat first|exact .refl _|assumption|refine .drew ?_|refine .alloc ?_ _|refine .setCell ?_ (by (try simp only);omega) _|refine .trans ?_ ‹Kept _ _›)⟩
theorem aaL {e:List cz} (ay:(cF e).2.2=0):∀n k s:Nat,k≤n→(cF e).1[k]?=some s→s≤k:=by
 obtain⟨_,_,hlen,ht,_⟩:=IE ay;intro n;induction n with
 |zero=>
  intro k s aa ax;have iI:=(b8 ax).1;obtain⟨_,_,gD⟩:=ht k _ (a8 (by omega));rcases gD with⟨_,h⟩|⟨_,h,_⟩|⟨_,h,_⟩|⟨_,h,_⟩
  ·rw[ax]at h;have:=Option.some.inj h;omega
  ·omega
  ·omega
  ·omega
 |succ n bH=>
  intro k s aa ax;have iI:=(b8 ax).1;obtain⟨_,_,gD⟩:=ht k _ (a8 (by omega));rcases gD with⟨_,h⟩|⟨_,I,AJ,U,ae⟩|⟨_,I,s1,AJ,U,ae,aJ⟩|⟨_,I,s2,s1,AJ,U,ae,aJ,bp⟩
  ·rw[ax]at h;have:=Option.some.inj h;omega
  ·rw[ax]at ae;have:=Option.some.inj ae;have:=bH _ _ (by omega) U;omega
  ·rw[ax]at aJ;have:=Option.some.inj aJ;have:=bH _ _ (by omega) U;have:=bH _ _ (by omega) ae;omega
  ·rw[ax]at bp;have:=Option.some.inj bp;have:=bH _ _ (by omega) U;have:=bH _ _ (by omega) ae;have:=bH _ _ (by omega) aJ;omega
def qO (l:List Int):Array Value:=(l.map (Value.int .i64)).toArray
theorem YV {l:List Int} {i:Nat} {n:Int} (h:l[i]?=some n):(qO l)[i]?=some (.int .i64 n):=by simp[qO,h]
theorem af1 (l:List Int) (i:Nat) (n:Int):(qO l).setIfInBounds i n=qO (l.set i n):=by
 unfold qO;rw[List.setIfInBounds_toArray,List.map_set]
theorem af0 {w:World} {B:Nat} {e:TypeId} {g n cap:Nat} {l:List Int} (h:w.ownsRow B e 1 (.slice (some ⟨g,0,none⟩) n cap) n (l.map (Value.int .i64))) (ah:cap=n):ao w g e (qO l):=by
 subst ah;rcases h.2 with⟨ay,_⟩|⟨hR,oq,cur,ay,_,ai,_,_,ae,aJ⟩
 ·cases ay
 ·simp only[Value.slice.injEq,Option.some.injEq,Addr.mk.injEq]at ay;obtain⟨⟨rfl,_⟩,_,rfl⟩:=ay;rw[List.take_of_length_le (by rw[Array.length_toList,ae];exact Nat.le_refl _)]at aJ;unfold ao qO;rw[←aJ,Array.toArray_toList];exact ai
theorem agQ {w w1:World} {t:TypeId} {n:Nat} (cR:w1.ownsRow w.heap.size t 1 (.slice (some ⟨w.heap.size,0,none⟩) n n) n (madeCells (Value.int .i64 0).cells (n*1)).toList) (cd:w.grownBy w1 none):
  ao w1 w.heap.size t (qO (List.replicate n 0))∧Kept w w1:=by
 refine⟨af0 (B:=w.heap.size) (n:=n) ?_ rfl,⟨cd.os,cd.tape,cd.output,cd.size,fun b J=>cd.block b J (by simp)⟩⟩;have e:=toList_madeCells_one (Value.int .i64 0) (n*1);rw[Nat.mul_one]at e;rw[Nat.mul_one,show (Value.int IntKind.i64 0).cells=#[Value.int .i64 0]from rfl,e]at cR;simpa using cR
def JE (S:List Nat):Nat→Int→Prop
 |0,_=>True
 |k+1,z=>∃l s:Nat,z=l∧S[l]?=some s∧JE S k ((s:Int)-1)
theorem ZW {S:List Nat} {q:Nat} {a:Int} (h:JD S q a):JE S a.toNat ((q:Int)-1):=by
 rcases h.2 with⟨rfl,_⟩|⟨rfl,I,s,U,_⟩|⟨rfl,I,s1,s,U,ae,_⟩|⟨rfl,I,s2,s1,s,U,ae,aJ,_⟩
 ·trivial
 ·exact⟨q-1,s,by omega,U,trivial⟩
 ·exact⟨q-1,s1+1,by omega,U,s1,s,by omega,ae,trivial⟩
 ·exact⟨q-1,s2+1,by omega,U,s2,s1+1,by omega,ae,s1,s,by omega,aJ,trivial⟩
theorem ZX {S:List Nat} {k l s:Nat} {acc:List Int} (h:S[l]?=some s):qU S (k+1) (l:Int) acc=qU S k ((s:Int)-1) ((l:Int)::acc):=by
 rw[qU,Int.toNat_natCast,h];rfl
theorem akK (k:Nat) (acc:List Int) (z:Int):(List.replicate (k+1) 0++acc).set k z=List.replicate k 0++z::acc:=by
 rw[List.replicate_succ',List.append_assoc,List.set_append_right _ _ (by simp)];simp
def SQ (B:Nat) (w:World) (u:Value) (l:List Int):Prop:=∃g,u= .slice (some ⟨g,0,none⟩) l.length l.length∧B≤g∧ao w g 3 (qO l)
theorem ai8 (v:Value) (xs:List cz) (w:World) (bM:zw w v xs) (aA:xs.length≤9223372036854775807):Calls prog 77 #[v] w fun e w'=>∃u,e= .returned (.tuple #[u,.int .i64 (cF xs).2.2])∧gV w' k3 1 u (cF xs).1∧Kept w w':=by
 have cD:=hid (aaU v xs w bM aA);clear bM aA;go_enter func77,ntmps77
 go_wp2_with (go_at_call 108;refine cD.out.mono ?_;rintro e w1 ⟨u,rfl,hu,aa⟩)
 go_ret2
 exact⟨u,rfl,hu,aa⟩
def tg (w:World) (v:Value) (e:List cz) (di:List Nat) (E:dC):Prop:=
 ∃ny b2 cl aC cM aM cX a1 ef bN dk bJ,v= .agg #[ny,b2,E.dt,.slice cl E.ins.length aC,.slice cM E.ds.length aM,.slice cX E.ms.length a1,.slice ef E.mt.length bN,.slice dk E.tb.length bJ]∧zw w ny e∧gV w k3 1 b2 di∧
  hl w (.agg #[E.dt,.slice cl E.ins.length aC,.slice cM E.ds.length aM,.slice cX E.ms.length a1,.slice ef E.mt.length bN,.slice dk E.tb.length bJ]) E
theorem tg.kept {w w':World} {v:Value} {e:List cz} {di:List Nat} {E:dC} (h:tg w v e di E) (aa:Kept w w'):tg w' v e di E:=by
 obtain⟨ny,b2,cl,aC,cM,aM,cX,a1,ef,bN,dk,bJ,ay,I,U,ae⟩:=h;exact⟨ny,b2,cl,aC,cM,aM,cX,a1,ef,bN,dk,bJ,ay,I.kept aa,U.kept aa,ae.kept aa⟩
def LQ (S:List Nat) (a q:Nat) (w:World) (x:Ending) (w':World):Prop:=∃u,x= .returned u∧SQ w.heap.size w' u (qU S a ((q:Int)-1) [])∧Kept w w'
theorem Vt (v:Value) (e:List cz) (E:dC) (q a:Nat) (x:cz) (w:World) (dZ:tg w v e (cF e).1 E) (ay:(cF e).2.2=0) (af:e[q]?=some x) (aZ:dY x.o=a):Calls prog 109 #[v,q] w (LQ (cF e).1 a q w):=by
 obtain⟨aj,zU,hlen,ht,_⟩:=IE ay;have nw:=aaL ay;obtain⟨PL,gD⟩:=ht q _ af;have lk:=(zI x.o).2;have eG:=ZW gD;obtain⟨ny,b2,cl,aC,cM,aM,cX,a1,ef,bN,dk,bJ,rfl,bM,bj,-⟩:=dZ;obtain⟨A,cap,rfl,aK⟩:=bM.at_;obtain⟨qp,ly,rfl,rT⟩:=CH bj;have yr:=(b8 af).1;obtain⟨n,fj⟩:∃n,n=e.length:=⟨_,rfl⟩;obtain⟨bY,jv,rfl,ea,cx⟩:=aK (by omega);obtain⟨bZ,_⟩:=cx q _ af;have mV:=hid (fun w=>(by have:=DM x.o w;rwa [aZ]at this:Calls prog 138 #[x.o] w fun e w'=>e= .returned (.int .i64 (a:Int))∧w=w'));rw[aZ,Int.toNat_natCast]at eG;rw[←fj]at zU hlen yr⊢;have Ck:(q:Int)<n:=by omega
 have al4:(q:Int)≤48:=by omega
 have WO:a≤3:=by omega
 have alg:(a:Int)≤3:=by omega
 have so:=hid hlen;generalize hSS:(cF e).1=S at*;obtain⟨L,bL⟩:∃L,L=qU S a ((q:Int)-1) []:=⟨_,rfl⟩;have e7:=hid bL;have nK:=hid nw;have HAT:=hid eG;obtain⟨i0,aE,fy,cb,eu⟩:=info_parts Tryz.rX;unfold LQ;rw[←bL];clear ht aZ lk PL gD af nw eG bM aK cx ay hSS hlen bL fj aj bj;generalize x.o=op at*;go_enter func109,ntmps109
 go_upto_region 1 with fail
 generalize ar:w.alloc _=W at*;obtain⟨aF,a_⟩:=Kept.az ar;clear ar;have gd:=aF.ad ea bZ;obtain⟨dL,cA⟩:=a_.p;have alp:=bd ea aF.size;go_wp2_with (first
  |(go_at_call 138;refine (mV.out _).mono ?_;rintro e w' ⟨rfl,rfl⟩)
  |(at_make;refine wpList_make_full _ rfl _ _ 92 rfl W.heap.size 3 i0 () 1 underlying92 aE fy cb _ _ _ _ a rfl rfl rfl rfl (by rw[eu];omega) (by unfold maxLen;omega) (Nat.le_refl _) ?_;intro w2 cR cd))
 obtain⟨aU,iI⟩:=agQ cR cd;clear cR cd dL cA;go_wp2_with fail
 go_loopw [6,7] (fun y x wr=>∃(k:Nat) (j z:Int) (acc:List Int),y= .int .i64 z∧x= .int .i64 j∧j=(k:Int)-1∧acc.length+k=a∧JE S k z∧qU S k z acc=L∧Kept W wr∧ao wr W.heap.size 3 (qO (List.replicate k 0++acc))) (fun _ x _=>(intOf x+1).toNat)
 case atStart=>exact⟨a,_,_,[],rfl,rfl,rfl,by simp,HAT.out,e7.out.symm,iI,by rw[List.append_nil];exact aU⟩
 case round=>
  obtain⟨k,j,z,acc,rfl,rfl,aB,vu,eG,aG,ab,aU⟩:=hrel;clear iI
  cases k with
  |zero=>
   obtain rfl:j= -1:=by omega
   have aV:Hid (SQ w.heap.size wr (.slice (some ⟨W.heap.size,0,none⟩) a a) L):=hid ⟨W.heap.size,by rw[←aG,qU,show acc.length=a by omega],aF.size,by rw[←aG,qU];exact aU⟩;clear aU aG vu aB eG;go_wp2_with fail
   go_ret;exact⟨_,rfl,aV.out,aF.trans ab⟩
  |succ k=>
   obtain⟨l,s,rfl,ax,aeP⟩:=eG;obtain rfl:j=(k:Int):=by omega
   rw[ZX ax]at aG;have nw:=nK.out l l s (Nat.le_refl _) ax;have Ep:=(b8 ax).1;have Eo:(l:Int)<S.length:=by omega
   rw[so.out]at Ep;obtain⟨n7,AM,hSA,fs,ih⟩:=rT (by rw[so.out];omega);subst hSA;have c1':=(aF.trans ab).ad fs (ih l s ax);have c0':wr.cell? ⟨W.heap.size,k,none⟩=some (.int .i64 0):=by
    rw[aU.cell];exact YV (by rw[List.getElem?_append_left (by simp),List.getElem?_replicate,if_pos (by omega)])
   have f:=aU.frozen;have aS:=a_.kept ab;obtain⟨dL,cA⟩:=aS.p;have n9:=aU.aP k (.int .i64 (l:Int));rw[af1,akK]at n9;have uU:=ab.setCell (p:=⟨W.heap.size,k,none⟩) (Nat.le_refl _) (.int .i64 (l:Int));have hwW:w.heap.size<W.heap.size:=a_.lt;have bQ:n7≠W.heap.size:=by have:=aF.size;omega
   have XR:w.heap.size≠W.heap.size:=by omega
   have P_:(k:Int)<a:=by omega
   have alL:(l:Int)≤48:=by omega
   have ama:(s:Int)≤48:=by omega
   have alJ:(k:Int)≤48:=by omega
   have HAC:=hid vu;have dd:=hid aG;clear vu aG aU ab aB ax nw Ep ih;go_wp2_with fail
   go_roundw
   case rel=>exact⟨k,_,_,(l:Int)::acc,rfl,rfl,rfl,by have:=HAC.out;rw[List.length_cons];omega,aeP,dd.out,uU,n9⟩
   case measure=>simp[intOf]
end Go.Proofs.YtobpgndkciofhaaGreatDoor
