/- The law TopExplanations returns true: the rules of an explanation alone reproduce the value. For every input that the row allows; the table that it lists holds what its text lays. -/
import Derived.Test.YtilhklpfkgbikaaGreatDoorAS
import Derived.Stop.LaidErr
import Derived.Shelf.Vars
set_option linter.all false
namespace Go.Proofs.YtilhklpfkgbikaaGreatDoor
open Go.Proofs.Tryz
set_option maxRecDepth 100000
section
open Go.ChangeShapes Go.WideShapes Go.ChangeAt Go.RowKit Go.Joins
open Go.ChangeMaps (open_string shut_string)
theorem apS(cm gX hn:Value)(l:cO)(sc d:Int)(c:gl)(w:World)(bE:h1 w cm l)(b6:ft w gX c.ins)(bN:kh w hn c.mem)(h3:Mon w):
  Calls prog 3 #[cm,.int .i64 sc,.agg #[.int .i64 c.d,gX,hn],.int .i64 d] w (Oh w):=by
 by_cases aq:(eD l sc c d).c=0
 .obtain⟨ab,⟨⟨ad,V'⟩,ao⟩,aR⟩:=FK (IK aq);obtain⟨i,rfl⟩:∃i:Nat,sc=i:=⟨sc.toNat,by omega⟩;exact apR cm gX hn l i _ d c w bE b6 bN h3 (bn (l:=l.sc) (i:=i) (by omega)) aq
 .exact apM cm gX hn l sc d c w bE b6 bN h3 aq
theorem ai0{W:World}(h:laidMetH prog Rows.topExplanationsRow.laid W):Mon W:=by
 have bw:laidMet prog Rows.topExplanationsRow.laid W:=h;have t5:Lib.TabIs prog W "guerdon/date.monthLengths" .i64 Ev:=
  Lib.tabIs_of_head (g:=3) (t:=316) (e:=3) (n:=12) (by kernel_rfl) (by kernel_rfl) (by kernel_rfl) (by kernel_rfl) (by kernel_rfl) (by kernel_rfl) bw
 exact λi aD=>t5.cell (g:=3) (by kernel_rfl) i aD
theorem apQ{H:Type}{enc:TypeId×Value->H}(W:World)(base:Nat)(args:Array Value)(ds:List (DataW H))(ps:List MemPlace)(p5:∀(j:Nat)t v,Tryz.f3.params[j]?=some t->args[j]?=some v->Value.okWide prog W .any base t v)(a7:DataW.TrodAll enc prog W 0 (λ_=>true) true Tryz.f3.params.toList args.toList ds ps)(bE:laidMetH prog Rows.topExplanationsRow.laid W)(QW:∀(j:Nat)t d,Tryz.f3.params.toList[j]?=some t->ds[j]?=some d->Lp t d)(bH:W.ShapedOpen prog):Calls prog 3 args W (aay W):=by
 rw[params3]at a7 p5 QW;obtain⟨v0,vs0,d0,ds0,dX,gK,arJ,rfl,rfl,ar,oy⟩:=trodAll_cons a7;obtain⟨v1,vs1,d1,ds1,dM,bd,rfl,rfl,rfl,ab,hh⟩:=trodAll_cons oy;obtain⟨v2,vs2,d2,ds2,dQ,a8,rfl,rfl,rfl,ad,iC⟩:=trodAll_cons hh;obtain⟨v3,vs3,d3,ds3,fP,dI,rfl,rfl,rfl,ao,kY⟩:=trodAll_cons iC;obtain⟨rfl,rfl,rfl⟩:=trodAll_nil kY;obtain rfl:args=#[v0,v1,v2,v3]:=by cases args;simp_all
 obtain⟨aua,QN⟩:=anh (p5 0 26 v0 rfl rfl) ar (QW 0 26 d0 rfl rfl);obtain⟨s,rfl,_,_,ws⟩:=open_int underlying3 (p5 1 3 v1 rfl rfl) ab;obtain⟨dt,as4,as8,ins,mem,rfl,aj8,asa,akp⟩:=anf (p5 2 30 v2 rfl rfl) ad;obtain⟨d,rfl,_,_,wd⟩:=open_int underlying3 (p5 3 3 v3 rfl rfl) ao;exact (λ(_:W.ShapedOpen prog)=>apS _ _ _ aua s d ⟨dt,ins,mem⟩ W QN aj8 akp (ai0 bE)) bH
theorem apO(os:Os):laidMet prog Rows.topExplanationsRow.laid ((Ye os).forCall (λ_ _=>0) ⟨#[],#[.agg #[.slice none 0 0,.slice none 0 0,.slice none 0 0],.int .i64 0,.agg #[.int .i64 0,.slice none 0 0,.slice none 0 0],.int .i64 0],[]⟩).memory:=
 laidMet_of_run' 8 (by kernel_rfl) (by kernel_rfl)
theorem apN(os:Os)(started:os.Started)(H:Type)(enc:TypeId×Value->H)(F:Stop.Interp):
  ReturnsInHanded {} Tryz.checked os 3 .any ((OpenSpec.ofChange Rows.topExplanationsSpec).preRow enc prog Tryz.f3 Rows.topExplanationsRow.domain false Rows.topExplanationsRow.laid) (((OpenSpec.ofChange Rows.topExplanationsSpec).at F).post enc prog Tryz.f3 false true false false):=by
 obtain⟨places,aj⟩:∃places,DataW.whole enc prog ((Ye os).forCall (λ_ _=>0) ⟨#[],#[.agg #[.slice none 0 0,.slice none 0 0,.slice none 0 0],.int .i64 0,.agg #[.int .i64 0,.slice none 0 0,.slice none 0 0],.int .i64 0],[]⟩).memory Tryz.f3.params.toList Rows.topExplanationsSpec.vars false #[.agg #[.slice none 0 0,.slice none 0 0,.slice none 0 0],.int .i64 0,.agg #[.int .i64 0,.slice none 0 0,.slice none 0 0],.int .i64 0].toList 8=some ([.agg [.nil,.nil,.nil],.lit (.int .i64 0),.agg [.lit (.int .i64 0),.nil,.nil],.lit (.int .i64 0)],[],places):=⟨[],by kernel_rfl⟩;exact alV (s:=Rows.topExplanationsSpec) (laid:=Rows.topExplanationsRow.laid) started (by kernel_rfl) func3 rfl (by kernel_rfl) (by intro ds av;match ds,av with|[_,_,_,_],_=>rfl) (by kernel_rfl)
  (witness_row_at (enc:=enc) (C:=Tryz.checked) false (Ye os) #[.agg #[.slice none 0 0,.slice none 0 0,.slice none 0 0],.int .i64 0,.agg #[.int .i64 0,.slice none 0 0,.slice none 0 0],.int .i64 0] rfl (by kernel_rfl) (by kernel_rfl) (by kernel_rfl)
   (OpenSpec.preRow_of_cond 8 aj (by kernel_rfl) (λk ai=>by cases ai) (by kernel_rfl) (apO os))) apQ F
theorem apP:Rows.TopExplanationsSaid:=
 OpenClaim.holds_of_cond 3 Tryz.f3 rfl rfl rfl rfl rfl rfl rfl ⟨rfl,rfl,rfl,rfl,rfl⟩ rfl rfl rfl rfl rfl (by kernel_rfl) func3 (by kernel_rfl)
  (of_decide_eq_true (by kernel_rfl)) (by unfold Func.isWrapper;first|(rw[if_pos (by decide+kernel)];kernel_rfl)|(rw[if_neg (by decide+kernel)];exact⟨rfl,rfl⟩))
  (λos started H enc _ F=>by rw[OpenClaim.pre_eq_preRow];exact apN os started H enc F)
theorem topExplanations_holds:Rows.TopExplanationsCardSaid:=
 Claim7.holds_tied_plain_at .later [] _ _ _ _ apP (λ_ h=>by cases h) (by kernel_rfl) (λ_ h=>by cases h) topExplanations_row_tie rfl ⟨rfl,rfl⟩ (by kernel_rfl) rfl (λf fn bV D8=>anE (show prog.funcNamed "guerdon/guerdontop.TopExplanations" =some 3 by kernel_rfl) func3 (by kernel_rfl) (by kernel_rfl) f fn bV D8) (by kernel_rfl)
#print axioms topExplanations_holds
end
end Go.Proofs.YtilhklpfkgbikaaGreatDoor
