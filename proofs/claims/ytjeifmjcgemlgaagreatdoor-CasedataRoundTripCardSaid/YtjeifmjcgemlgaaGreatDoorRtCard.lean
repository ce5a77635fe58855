/- The law CasedataRoundTrip returns true: for a valid law, parsing the text of a valid case returns an equal case. For every input that the row allows; the tables that it lists hold what their text lays. -/
import Derived.Test.YtjeifmjcgemlgaaGreatDoorRtEnv
namespace Go.Proofs.YtjeifmjcgemlgaaGreatDoor
open Go.ChangeShapes Go.WideShapes Go.ChangeAt Go.RowKit Go.Joins
open Go.ChangeMaps (open_string shut_string)

set_option maxRecDepth 100000 in
theorem casedataRoundTrip_step {H : Type} {enc : TypeId × Value → H} (W : World) (base : Nat) (args : Array Value) (ds : List (DataW H)) (ps : List MemPlace)
    (hval : ∀ (j : Nat) t v, Tryz.f3.params[j]? = some t → args[j]? = some v → Value.okWide Tryz.prog W .any base t v)
    (hA : DataW.TrodAll enc Tryz.prog W 0 (fun _ => true) true Tryz.f3.params.toList args.toList ds ps) (hL : laidMetH Tryz.prog Rows.casedataRoundTripRow.laid W) (hWt : ∀ (j : Nat) t d, Tryz.f3.params.toList[j]? = some t → ds[j]? = some d → WtB t d) (hS : W.ShapedOpen Tryz.prog) : Calls Tryz.prog 3 args W (LawPost W) := by
  rw [Tryz.params3] at hA hval hWt
  obtain ⟨v0, vs0, d0, ds0, p0, q0, hargs, rfl, rfl, h0, r0⟩ := trodAll_cons hA
  obtain ⟨v1, vs1, d1, ds1, p1, q1, rfl, rfl, rfl, h1, r1⟩ := trodAll_cons r0
  obtain ⟨v2, vs2, d2, ds2, p2, q2, rfl, rfl, rfl, h2, r2⟩ := trodAll_cons r1
  obtain ⟨rfl, rfl, rfl⟩ := trodAll_nil r2
  obtain rfl : args = #[v0, v1, v2] := by cases args; simp_all
  obtain ⟨ms, scs, hms, rms⟩ := open_law (hval 0 26 v0 rfl rfl) h0; have dms := open_lawD (hval 0 26 v0 rfl rfl) h0 (hWt 0 26 d0 rfl rfl)
  obtain ⟨sc, rfl, _, _, wsc⟩ := open_int Tryz.underlying3 (hval 1 3 v1 rfl rfl) h1
  obtain ⟨d, ivd, mvd, ins, mem, rfl, hid, hld, hmd⟩ := open_case (hval 2 30 v2 rfl rfl) h2
  exact lawCdRoundTrip _ _ _ ms scs sc d ins mem W hms rms dms hid hld hmd (envRt hL).1 (envRt hL).2 (envMaxRt hS)
theorem casedataRoundTrip_met (os : Os) : laidMet Tryz.prog Rows.casedataRoundTripRow.laid ((laidWorld os).forCall (fun _ _ => 0) ⟨#[], #[.agg #[.slice none 0 0, .slice none 0 0, .slice none 0 0], .int .i64 0, .agg #[.int .i64 0, .slice none 0 0, .slice none 0 0]], []⟩).memory :=
  laidMet_of_run' 8 (by kernel_rfl) (by kernel_rfl)
set_option maxRecDepth 100000 in
theorem casedataRoundTrip_lifted (os : Os) (started : os.Started) (H : Type) (enc : TypeId × Value → H) (F : Stop.Interp) :
    ReturnsInHanded {} Tryz.checked os 3 .any ((OpenSpec.ofChange Rows.casedataRoundTripSpec).preRow enc Tryz.prog Tryz.f3 Rows.casedataRoundTripRow.domain false Rows.casedataRoundTripRow.laid) (((OpenSpec.ofChange Rows.casedataRoundTripSpec).at F).post enc Tryz.prog Tryz.f3 false true false false) := by
  obtain ⟨places, hx⟩ : ∃ places, DataW.whole enc Tryz.prog ((laidWorld os).forCall (fun _ _ => 0) ⟨#[], #[.agg #[.slice none 0 0, .slice none 0 0, .slice none 0 0], .int .i64 0, .agg #[.int .i64 0, .slice none 0 0, .slice none 0 0]], []⟩).memory Tryz.f3.params.toList Rows.casedataRoundTripSpec.vars false #[.agg #[.slice none 0 0, .slice none 0 0, .slice none 0 0], .int .i64 0, .agg #[.int .i64 0, .slice none 0 0, .slice none 0 0]].toList 8 = some ([.agg [.nil, .nil, .nil], .lit (.int .i64 0), .agg [.lit (.int .i64 0), .nil, .nil]], [], places) := ⟨[], by kernel_rfl⟩
  exact law_liftedSW (s := Rows.casedataRoundTripSpec) (laid := Rows.casedataRoundTripRow.laid) started (by kernel_rfl) Tryz.func3 rfl (by kernel_rfl) (by intro ds hl; match ds, hl with | [_, _, _], _ => rfl) (by kernel_rfl)
    (witness_row_at (enc := enc) (C := Tryz.checked) false (laidWorld os) #[.agg #[.slice none 0 0, .slice none 0 0, .slice none 0 0], .int .i64 0, .agg #[.int .i64 0, .slice none 0 0, .slice none 0 0]] rfl (by kernel_rfl) (by kernel_rfl) (by kernel_rfl)
      (OpenSpec.preRow_of_cond 8 hx (by kernel_rfl) (fun k hk => by cases hk) (by kernel_rfl) (casedataRoundTrip_met os))) casedataRoundTrip_step F
set_option maxRecDepth 100000 in
theorem casedataRoundTrip_said : Rows.CasedataRoundTripSaid :=
  OpenClaim.holds_of_cond 3 Tryz.f3 rfl rfl rfl rfl rfl rfl rfl ⟨rfl, rfl, rfl, rfl, rfl⟩ rfl rfl rfl rfl rfl (by kernel_rfl) Tryz.func3 (by kernel_rfl)
    (of_decide_eq_true (by kernel_rfl)) (by unfold Func.isWrapper; first | (rw [if_pos (by decide +kernel)]; kernel_rfl) | (rw [if_neg (by decide +kernel)]; exact ⟨rfl, rfl⟩))
    (fun os started H enc _ F => by rw [OpenClaim.pre_eq_preRow]; exact casedataRoundTrip_lifted os started H enc F)
theorem casedataRoundTrip_holds : Rows.CasedataRoundTripCardSaid :=
  Claim7.holds_tied_plain_at .later [] _ _ _ _ casedataRoundTrip_said (fun _ h => by cases h) (by kernel_rfl) (fun _ h => by cases h) casedataRoundTrip_row_tie rfl ⟨rfl, rfl⟩ (by kernel_rfl) rfl (fun f fn hf hfn => plain_of (show Tryz.prog.funcNamed "guerdon/guerdonlaw19.CasedataRoundTrip" = some 3 by kernel_rfl) Tryz.func3 (by kernel_rfl) (by kernel_rfl) f fn hf hfn) (by kernel_rfl)
#print axioms casedataRoundTrip_holds
end Go.Proofs.YtjeifmjcgemlgaaGreatDoor
