/- The law ValueRoundTrip returns true: parsing the text of a valid value returns the value. For every input that the row allows; the tables that it lists hold what their text lays. -/
import Derived.Test.YtjdljholajacdaaDoorLaw09M
namespace Go.Proofs.YtjdljholajacdaaDoor
open Go.ChangeShapes Go.WideShapes Go.ChangeAt Go.RowKit Go.Joins
open Go.ChangeMaps (open_string shut_string)

set_option maxRecDepth 100000 in
theorem valueRoundTrip_step {H : Type} {enc : TypeId × Value → H} (W : World) (base : Nat) (args : Array Value) (ds : List (DataW H)) (ps : List MemPlace)
    (hval : ∀ (j : Nat) t v, Tryd.f5.params[j]? = some t → args[j]? = some v → Value.okWide Tryd.prog W .any base t v)
    (hA : DataW.TrodAll enc Tryd.prog W 0 (fun _ => true) true Tryd.f5.params.toList args.toList ds ps) (hL : laidMetH Tryd.prog Rows.valueRoundTripRow.laid W) : Calls Tryd.prog 5 args W (LawPost W) := by
  rw [Tryd.params5] at hA hval
  obtain ⟨v0, vs0, d0, ds0, p0, q0, hargs, rfl, rfl, h0, r0⟩ := trodAll_cons hA
  obtain ⟨v1, vs1, d1, ds1, p1, q1, rfl, rfl, rfl, h1, r1⟩ := trodAll_cons r0
  obtain ⟨rfl, rfl, rfl⟩ := trodAll_nil r1
  obtain rfl : args = #[v0, v1] := by cases args; simp_all
  obtain ⟨k, e, n, rfl, wn⟩ := open_val (hval 0 23 v0 rfl rfl) h0
  obtain ⟨ms, hms⟩ := open_enums (hval 1 24 v1 rfl rfl) h1
  exact lawRound9 k e n _ ms W hms (env9 hL).1 (env9 hL).2
theorem valueRoundTrip_met (os : Os) : laidMet Tryd.prog Rows.valueRoundTripRow.laid ((laidWorld os).forCall (fun _ _ => 0) ⟨#[], #[.agg #[.int .i64 0, .int .i64 0, .int .i64 0], .slice none 0 0], []⟩).memory :=
  laidMet_of_run' 8 (by kernel_rfl) (by kernel_rfl)
set_option maxRecDepth 100000 in
theorem valueRoundTrip_lifted (os : Os) (started : os.Started) (H : Type) (enc : TypeId × Value → H) (F : Stop.Interp) :
    ReturnsInHanded {} Tryd.checked os 5 .any ((OpenSpec.ofChange Rows.valueRoundTripSpec).preRow enc Tryd.prog Tryd.f5 Rows.valueRoundTripRow.domain false Rows.valueRoundTripRow.laid) (((OpenSpec.ofChange Rows.valueRoundTripSpec).at F).post enc Tryd.prog Tryd.f5 false true false false) := by
  obtain ⟨places, hx⟩ : ∃ places, DataW.whole enc Tryd.prog ((laidWorld os).forCall (fun _ _ => 0) ⟨#[], #[.agg #[.int .i64 0, .int .i64 0, .int .i64 0], .slice none 0 0], []⟩).memory Tryd.f5.params.toList Rows.valueRoundTripSpec.vars false #[.agg #[.int .i64 0, .int .i64 0, .int .i64 0], .slice none 0 0].toList 8 = some ([.agg [.lit (.int .i64 0), .lit (.int .i64 0), .lit (.int .i64 0)], .nil], [], places) := ⟨[], by kernel_rfl⟩
  exact law_liftedL (s := Rows.valueRoundTripSpec) (laid := Rows.valueRoundTripRow.laid) started (by kernel_rfl) Tryd.func5 rfl (by kernel_rfl) (by intro ds hl; match ds, hl with | [_, _], _ => rfl) (by kernel_rfl)
    (witness_row_at (enc := enc) (C := Tryd.checked) false (laidWorld os) #[.agg #[.int .i64 0, .int .i64 0, .int .i64 0], .slice none 0 0] rfl (by kernel_rfl) (by kernel_rfl) (by kernel_rfl)
      (OpenSpec.preRow_of_cond 8 hx (by kernel_rfl) (fun k hk => by cases hk) (by kernel_rfl) (valueRoundTrip_met os))) valueRoundTrip_step F
set_option maxRecDepth 100000 in
theorem valueRoundTrip_said : Rows.ValueRoundTripSaid :=
  OpenClaim.holds_of_cond 5 Tryd.f5 rfl rfl rfl rfl rfl rfl rfl ⟨rfl, rfl, rfl, rfl, rfl⟩ rfl rfl rfl rfl rfl (by kernel_rfl) Tryd.func5 (by kernel_rfl)
    (of_decide_eq_true (by kernel_rfl)) (by unfold Func.isWrapper; first | (rw [if_pos (by decide +kernel)]; kernel_rfl) | (rw [if_neg (by decide +kernel)]; exact ⟨rfl, rfl⟩))
    (fun os started H enc _ F => by rw [OpenClaim.pre_eq_preRow]; exact valueRoundTrip_lifted os started H enc F)
theorem valueRoundTrip_holds : Rows.ValueRoundTripCardSaid :=
  Claim7.holds_tied_plain_at .later [] _ _ _ _ valueRoundTrip_said (fun _ h => by cases h) (by kernel_rfl) (fun _ h => by cases h) valueRoundTrip_row_tie rfl ⟨rfl, rfl⟩ (by kernel_rfl) rfl (fun f fn hf hfn => plain_of (show Tryd.prog.funcNamed "guerdon/guerdonlaw09.ValueRoundTrip" = some 5 by kernel_rfl) Tryd.func5 (by kernel_rfl) (by kernel_rfl) f fn hf hfn) (by kernel_rfl)
#print axioms valueRoundTrip_holds
end Go.Proofs.YtjdljholajacdaaDoor
