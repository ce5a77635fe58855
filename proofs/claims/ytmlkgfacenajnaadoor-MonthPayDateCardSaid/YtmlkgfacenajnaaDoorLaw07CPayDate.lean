/- The law MonthPayDate returns true: PayDate agrees with the reference. For every input that the row allows; the tables that it lists hold what their text lays. -/
import Derived.Test.YtmlkgfacenajnaaDoorLaw07B
import Derived.Test.YtmlkgfacenajnaaDoorOpenCal
namespace Go.Proofs.YtmlkgfacenajnaaDoor
open Go.ChangeShapes Go.WideShapes Go.ChangeAt Go.RowKit Go.Joins
open Go.ChangeMaps (open_string shut_string)

set_option maxRecDepth 100000 in
theorem monthPayDate_step {H : Type} {enc : TypeId × Value → H} (W : World) (base : Nat) (args : Array Value) (ds : List (DataW H)) (ps : List MemPlace)
    (hval : ∀ (j : Nat) t v, Tryd.f9.params[j]? = some t → args[j]? = some v → Value.okWide Tryd.prog W .any base t v)
    (hA : DataW.TrodAll enc Tryd.prog W 0 (fun _ => true) true Tryd.f9.params.toList args.toList ds ps) (hL : laidMetH Tryd.prog Rows.monthPayDateRow.laid W) : Calls Tryd.prog 9 args W (LawPost W) := by
  rw [Tryd.params9] at hA hval
  obtain ⟨v0, vs0, d0, ds0, p0, q0, hargs, rfl, rfl, h0, r0⟩ := trodAll_cons hA
  obtain ⟨v1, vs1, d1, ds1, p1, q1, rfl, rfl, rfl, h1, r1⟩ := trodAll_cons r0
  obtain ⟨v2, vs2, d2, ds2, p2, q2, rfl, rfl, rfl, h2, r2⟩ := trodAll_cons r1
  obtain ⟨rfl, rfl, rfl⟩ := trodAll_nil r2
  obtain rfl : args = #[v0, v1, v2] := by cases args; simp_all
  obtain ⟨m, rfl, _, _, wm⟩ := open_int Tryd.underlying3 (hval 0 3 v0 rfl rfl) h0
  obtain ⟨wk, A, n, c, hs, rfl, hr, _, _⟩ := open_cal (hval 1 43 v1 rfl rfl) h1
  obtain ⟨day, rfl, _, _, wday⟩ := open_int Tryd.underlying3 (hval 2 3 v2 rfl rfl) h2
  exact lawMPayDate m wk A n c hs day W hr (env7 hL).1 (env7 hL).2
theorem monthPayDate_met (os : Os) : laidMet Tryd.prog Rows.monthPayDateRow.laid ((laidWorld os).forCall (fun _ _ => 0) ⟨#[], #[.int .i64 0, .agg #[.int .i64 0, .slice none 0 0], .int .i64 0], []⟩).memory :=
  laidMet_of_run' 8 (by kernel_rfl) (by kernel_rfl)
set_option maxRecDepth 100000 in
theorem monthPayDate_lifted (os : Os) (started : os.Started) (H : Type) (enc : TypeId × Value → H) (F : Stop.Interp) :
    ReturnsInHanded {} Tryd.checked os 9 .any ((OpenSpec.ofChange Rows.monthPayDateSpec).preRow enc Tryd.prog Tryd.f9 Rows.monthPayDateRow.domain false Rows.monthPayDateRow.laid) (((OpenSpec.ofChange Rows.monthPayDateSpec).at F).post enc Tryd.prog Tryd.f9 false true false false) := by
  obtain ⟨places, hx⟩ : ∃ places, DataW.whole enc Tryd.prog ((laidWorld os).forCall (fun _ _ => 0) ⟨#[], #[.int .i64 0, .agg #[.int .i64 0, .slice none 0 0], .int .i64 0], []⟩).memory Tryd.f9.params.toList Rows.monthPayDateSpec.vars false #[.int .i64 0, .agg #[.int .i64 0, .slice none 0 0], .int .i64 0].toList 8 = some ([.lit (.int .i64 0), .agg [.lit (.int .i64 0), .nil], .lit (.int .i64 0)], [], places) := ⟨[], by kernel_rfl⟩
  exact law_liftedL (s := Rows.monthPayDateSpec) (laid := Rows.monthPayDateRow.laid) started (by kernel_rfl) Tryd.func9 rfl (by kernel_rfl) (by intro ds hl; match ds, hl with | [_, _, _], _ => rfl) (by kernel_rfl)
    (witness_row_at (enc := enc) (C := Tryd.checked) false (laidWorld os) #[.int .i64 0, .agg #[.int .i64 0, .slice none 0 0], .int .i64 0] rfl (by kernel_rfl) (by kernel_rfl) (by kernel_rfl)
      (OpenSpec.preRow_of_cond 8 hx (by kernel_rfl) (fun k hk => by cases hk) (by kernel_rfl) (monthPayDate_met os))) monthPayDate_step F
set_option maxRecDepth 100000 in
theorem monthPayDate_said : Rows.MonthPayDateSaid :=
  OpenClaim.holds_of_cond 9 Tryd.f9 rfl rfl rfl rfl rfl rfl rfl ⟨rfl, rfl, rfl, rfl, rfl⟩ rfl rfl rfl rfl rfl (by kernel_rfl) Tryd.func9 (by kernel_rfl)
    (of_decide_eq_true (by kernel_rfl)) (by unfold Func.isWrapper; first | (rw [if_pos (by decide +kernel)]; kernel_rfl) | (rw [if_neg (by decide +kernel)]; exact ⟨rfl, rfl⟩))
    (fun os started H enc _ F => by rw [OpenClaim.pre_eq_preRow]; exact monthPayDate_lifted os started H enc F)
theorem monthPayDate_holds : Rows.MonthPayDateCardSaid :=
  Claim7.holds_tied_plain_at .later [] _ _ _ _ monthPayDate_said (fun _ h => by cases h) (by kernel_rfl) (fun _ h => by cases h) monthPayDate_row_tie rfl ⟨rfl, rfl⟩ (by kernel_rfl) rfl (fun f fn hf hfn => plain_of (show Tryd.prog.funcNamed "guerdon/guerdonlaw07.MonthPayDate" = some 9 by kernel_rfl) Tryd.func9 (by kernel_rfl) (by kernel_rfl) f fn hf hfn) (by kernel_rfl)
#print axioms monthPayDate_holds
end Go.Proofs.YtmlkgfacenajnaaDoor
