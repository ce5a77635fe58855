/- The law ValueDistinct returns true: different values of a type have different texts. For every input that the row allows; the tables that it lists hold what their text lays. -/
import Derived.Test.YtjdljholajacdaaDoorLaw09M
namespace Go.Proofs.YtjdljholajacdaaDoor
open Go.ChangeShapes Go.WideShapes Go.ChangeAt Go.RowKit Go.Joins
open Go.ChangeMaps (open_string shut_string)

set_option maxRecDepth 100000 in
theorem valueDistinct_step {H : Type} {enc : TypeId × Value → H} (W : World) (base : Nat) (args : Array Value) (ds : List (DataW H)) (ps : List MemPlace)
    (hval : ∀ (j : Nat) t v, Tryd.f6.params[j]? = some t → args[j]? = some v → Value.okWide Tryd.prog W .any base t v)
    (hA : DataW.TrodAll enc Tryd.prog W 0 (fun _ => true) true Tryd.f6.params.toList args.toList ds ps) (hL : laidMetH Tryd.prog Rows.valueDistinctRow.laid W) : Calls Tryd.prog 6 args W (LawPost W) := by
  rw [Tryd.params6] at hA hval
  obtain ⟨v0, vs0, d0, ds0, p0, q0, hargs, rfl, rfl, h0, r0⟩ := trodAll_cons hA
  obtain ⟨v1, vs1, d1, ds1, p1, q1, rfl, rfl, rfl, h1, r1⟩ := trodAll_cons r0
  obtain ⟨v2, vs2, d2, ds2, p2, q2, rfl, rfl, rfl, h2, r2⟩ := trodAll_cons r1
  obtain ⟨rfl, rfl, rfl⟩ := trodAll_nil r2
  obtain rfl : args = #[v0, v1, v2] := by cases args; simp_all
  obtain ⟨k, e, rfl⟩ := open_typ (hval 0 32 v0 rfl rfl) h0
  obtain ⟨a, b, rfl, wa, wb⟩ := open_arr2 (hval 1 40 v1 rfl rfl) h1
  obtain ⟨ms, hms⟩ := open_enums (hval 2 24 v2 rfl rfl) h2
  exact lawDistinct9 k e a b _ ms (wf_bd9 wa).1 (wf_bd9 wa).2 (wf_bd9 wb).1 (wf_bd9 wb).2 W hms (env9 hL).1 (env9 hL).2
theorem valueDistinct_met (os : Os) : laidMet Tryd.prog Rows.valueDistinctRow.laid ((laidWorld os).forCall (fun _ _ => 0) ⟨#[], #[.agg #[.int .i64 0, .int .i64 0], .agg #[.int .i64 0, .int .i64 0], .slice none 0 0], []⟩).memory :=
  laidMet_of_run' 8 (by kernel_rfl) (by kernel_rfl)
set_option maxRecDepth 100000 in
theorem valueDistinct_lifted (os : Os) (started : os.Started) (H : Type) (enc : TypeId × Value → H) (F : Stop.Interp) :
    ReturnsInHanded {} Tryd.checked os 6 .any ((OpenSpec.ofChange Rows.valueDistinctSpec).preRow enc Tryd.prog Tryd.f6 Rows.valueDistinctRow.domain false Rows.valueDistinctRow.laid) (((OpenSpec.ofChange Rows.valueDistinctSpec).at F).post enc Tryd.prog Tryd.f6 false true false false) := by
  obtain ⟨places, hx⟩ : ∃ places, DataW.whole enc Tryd.prog ((laidWorld os).forCall (fun _ _ => 0) ⟨#[], #[.agg #[.int .i64 0, .int .i64 0], .agg #[.int .i64 0, .int .i64 0], .slice none 0 0], []⟩).memory Tryd.f6.params.toList Rows.valueDistinctSpec.vars false #[.agg #[.int .i64 0, .int .i64 0], .agg #[.int .i64 0, .int .i64 0], .slice none 0 0].toList 8 = some ([.agg [.lit (.int .i64 0), .lit (.int .i64 0)], .agg [.lit (.int .i64 0), .lit (.int .i64 0)], .nil], [], places) := ⟨[], by kernel_rfl⟩
  exact law_liftedL (s := Rows.valueDistinctSpec) (laid := Rows.valueDistinctRow.laid) started (by kernel_rfl) Tryd.func6 rfl (by kernel_rfl) (by intro ds hl; match ds, hl with | [_, _, _], _ => rfl) (by kernel_rfl)
    (witness_row_at (enc := enc) (C := Tryd.checked) false (laidWorld os) #[.agg #[.int .i64 0, .int .i64 0], .agg #[.int .i64 0, .int .i64 0], .slice none 0 0] rfl (by kernel_rfl) (by kernel_rfl) (by kernel_rfl)
      (OpenSpec.preRow_of_cond 8 hx (by kernel_rfl) (fun k hk => by cases hk) (by kernel_rfl) (valueDistinct_met os))) valueDistinct_step F
set_option maxRecDepth 100000 in
theorem valueDistinct_said : Rows.ValueDistinctSaid :=
  OpenClaim.holds_of_cond 6 Tryd.f6 rfl rfl rfl rfl rfl rfl rfl ⟨rfl, rfl, rfl, rfl, rfl⟩ rfl rfl rfl rfl rfl (by kernel_rfl) Tryd.func6 (by kernel_rfl)
    (of_decide_eq_true (by kernel_rfl)) (by unfold Func.isWrapper; first | (rw [if_pos (by decide +kernel)]; kernel_rfl) | (rw [if_neg (by decide +kernel)]; exact ⟨rfl, rfl⟩))
    (fun os started H enc _ F => by rw [OpenClaim.pre_eq_preRow]; exact valueDistinct_lifted os started H enc F)
theorem valueDistinct_holds : Rows.ValueDistinctCardSaid :=
  Claim7.holds_tied_plain_at .later [] _ _ _ _ valueDistinct_said (fun _ h => by cases h) (by kernel_rfl) (fun _ h => by cases h) valueDistinct_row_tie rfl ⟨rfl, rfl⟩ (by kernel_rfl) rfl (fun f fn hf hfn => plain_of (show Tryd.prog.funcNamed "guerdon/guerdonlaw09.ValueDistinct" = some 6 by kernel_rfl) Tryd.func6 (by kernel_rfl) (by kernel_rfl) f fn hf hfn) (by kernel_rfl)
#print axioms valueDistinct_holds
end Go.Proofs.YtjdljholajacdaaDoor
