/- The law TopAttribution returns true: a simulation reports the values of the interpreter under both laws, and each changed case is attributed to a changed rule. For every input that the row allows; the table that it lists holds what its text lays. -/
import Derived.Test.YtobpgndkciofhaaGreatDoorAM
import Derived.Stop.LaidErr
import Derived.Shelf.Vars
set_option linter.all false
namespace Go.Proofs.YtobpgndkciofhaaGreatDoor
open Go.Proofs.Tryz
set_option maxRecDepth 100000
section
open Go.ChangeShapes Go.WideShapes Go.ChangeAt Go.RowKit Go.Joins
open Go.ChangeMaps (open_string shut_string)
theorem aej {W:World} (h:laidMetH prog Rows.topAttributionRow.laid W):Mon W:=by
 have bp:laidMet prog Rows.topAttributionRow.laid W:=h;have t5:Lib.TabIs prog W "guerdon/date.monthLengths" .i64 Ay:=
  Lib.tabIs_of_head (g:=3) (t:=310) (e:=3) (n:=12) (by kernel_rfl) (by kernel_rfl) (by kernel_rfl) (by kernel_rfl) (by kernel_rfl) (by kernel_rfl) bp
 exact fun i aE=>t5.cell (g:=3) (by kernel_rfl) i aE
theorem ajJ {H:Type} {enc:TypeId×Value→H} (W:World) (base:Nat) (args:Array Value) (ds:List (DataW H)) (ps:List MemPlace)
  (ug:∀(j:Nat) t v,Tryz.f3.params[j]?=some t→args[j]?=some v→Value.okWide prog W .any base t v)
  (aK:DataW.TrodAll enc prog W 0 (fun _=>true) true Tryz.f3.params.toList args.toList ds ps) (bL:laidMetH prog Rows.topAttributionRow.laid W) (Ee:∀(j:Nat) t d,Tryz.f3.params.toList[j]?=some t→ds[j]?=some d→DK t d) (bj:W.ShapedOpen prog):Calls prog 3 args W (Jz W):=by
 rw[params3]at aK ug Ee;obtain⟨v0,vs0,d0,ds0,dL,eb,alo,rfl,rfl,aj,pa⟩:=trodAll_cons aK;obtain⟨v1,vs1,d1,ds1,dq,aO,rfl,rfl,rfl,I,im⟩:=trodAll_cons pa;obtain⟨v2,vs2,d2,ds2,dR,aN,rfl,rfl,rfl,U,i_⟩:=trodAll_cons im;obtain⟨v3,vs3,d3,ds3,fU,cK,rfl,rfl,rfl,ae,vU⟩:=trodAll_cons i_;obtain⟨rfl,rfl,rfl⟩:=trodAll_nil vU;obtain rfl:args=#[v0,v1,v2,v3]:=by cases args;simp_all
 obtain⟨anq,KK⟩:=ZT (ug 0 26 v0 rfl rfl) aj (Ee 0 26 d0 rfl rfl);obtain⟨anr,hLb⟩:=ZT (ug 1 26 v1 rfl rfl) I (Ee 1 26 d1 rfl rfl);obtain⟨cs,hv⟩:=ahu (ug 2 27 v2 rfl rfl) U (Ee 2 27 d2 rfl rfl);obtain⟨d,rfl,_,_,wd⟩:=open_int underlying3 (ug 3 3 v3 rfl rfl) ae;exact (fun (_:W.ShapedOpen prog)=>age _ _ _ anq anr cs d W KK hLb hv (aej bL)) bj
theorem ajH (os:Os):laidMet prog Rows.topAttributionRow.laid ((Q2 os).forCall (fun _ _=>0) ⟨#[],#[.agg #[.slice none 0 0,.slice none 0 0,.slice none 0 0],.agg #[.slice none 0 0,.slice none 0 0,.slice none 0 0],.slice none 0 0,.int .i64 0],[]⟩).memory:=
 laidMet_of_run' 8 (by kernel_rfl) (by kernel_rfl)
theorem ajG (os:Os) (started:os.Started) (H:Type) (enc:TypeId×Value→H) (F:Stop.Interp):
  ReturnsInHanded {} Tryz.checked os 3 .any ((OpenSpec.ofChange Rows.topAttributionSpec).preRow enc prog Tryz.f3 Rows.topAttributionRow.domain false Rows.topAttributionRow.laid) (((OpenSpec.ofChange Rows.topAttributionSpec).at F).post enc prog Tryz.f3 false true false false):=by
 obtain⟨places,af⟩:∃places,DataW.whole enc prog ((Q2 os).forCall (fun _ _=>0) ⟨#[],#[.agg #[.slice none 0 0,.slice none 0 0,.slice none 0 0],.agg #[.slice none 0 0,.slice none 0 0,.slice none 0 0],.slice none 0 0,.int .i64 0],[]⟩).memory Tryz.f3.params.toList Rows.topAttributionSpec.vars false #[.agg #[.slice none 0 0,.slice none 0 0,.slice none 0 0],.agg #[.slice none 0 0,.slice none 0 0,.slice none 0 0],.slice none 0 0,.int .i64 0].toList 8=some ([.agg [.nil,.nil,.nil],.agg [.nil,.nil,.nil],.nil,.lit (.int .i64 0)],[],places):=⟨[],by kernel_rfl⟩;exact agf (s:=Rows.topAttributionSpec) (laid:=Rows.topAttributionRow.laid) started (by kernel_rfl) func3 rfl (by kernel_rfl) (by intro ds aq;match ds,aq with|[_,_,_,_],_=>rfl) (by kernel_rfl)
  (witness_row_at (enc:=enc) (C:=Tryz.checked) false (Q2 os) #[.agg #[.slice none 0 0,.slice none 0 0,.slice none 0 0],.agg #[.slice none 0 0,.slice none 0 0,.slice none 0 0],.slice none 0 0,.int .i64 0] rfl (by kernel_rfl) (by kernel_rfl) (by kernel_rfl)
   (OpenSpec.preRow_of_cond 8 af (by kernel_rfl) (fun k aa=>by cases aa) (by kernel_rfl) (ajH os))) ajJ F
theorem ajI:Rows.TopAttributionSaid:=
 OpenClaim.holds_of_cond 3 Tryz.f3 rfl rfl rfl rfl rfl rfl rfl ⟨rfl,rfl,rfl,rfl,rfl⟩ rfl rfl rfl rfl rfl (by kernel_rfl) func3 (by kernel_rfl)
  (of_decide_eq_true (by kernel_rfl)) (by unfold Func.isWrapper;first|(rw[if_pos (by decide+kernel)];kernel_rfl)|(rw[if_neg (by decide+kernel)];exact⟨rfl,rfl⟩))
  (fun os started H enc _ F=>by rw[OpenClaim.pre_eq_preRow];exact ajG os started H enc F)
theorem topAttribution_holds:Rows.TopAttributionCardSaid:=
 Claim7.holds_tied_plain_at .later [] _ _ _ _ ajI (fun _ h=>by cases h) (by kernel_rfl) (fun _ h=>by cases h) topAttribution_row_tie rfl ⟨rfl,rfl⟩ (by kernel_rfl) rfl (fun f fn bO z7=>ahP (show prog.funcNamed "guerdon/guerdontop.TopAttribution" =some 3 by kernel_rfl) func3 (by kernel_rfl) (by kernel_rfl) f fn bO z7) (by kernel_rfl)
#print axioms topAttribution_holds
end
end Go.Proofs.YtobpgndkciofhaaGreatDoor
