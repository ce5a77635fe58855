/- The law LexerRoundTrip returns true: the formatted tokens of a text are split into the same tokens again, and formatting these returns the same text. For every input that the row allows; the table that it lists holds what its text lays. -/
import Derived.Test.YtmlkgfacenajnaaDoorLaw08D
namespace Go.Proofs.YtmlkgfacenajnaaDoor
open Go.ChangeShapes Go.WideShapes Go.ChangeAt Go.RowKit Go.Joins
open Go.ChangeMaps (open_string shut_string)

set_option maxRecDepth 100000 in
theorem lexerRoundTrip_step {H : Type} {enc : TypeId × Value → H} (W : World) (base : Nat) (args : Array Value) (ds : List (DataW H)) (ps : List MemPlace)
    (hval : ∀ (j : Nat) t v, Tryd.f7.params[j]? = some t → args[j]? = some v → Value.okWide Tryd.prog W .any base t v)
    (hA : DataW.TrodAll enc Tryd.prog W 0 (fun _ => true) true Tryd.f7.params.toList args.toList ds ps) (hL : laidMetH Tryd.prog Rows.lexerRoundTripRow.laid W) : Calls Tryd.prog 7 args W (LawPost W) := by
  rw [Tryd.params7] at hA hval
  obtain ⟨v0, vs0, d0, ds0, p0, q0, hargs, rfl, rfl, h0, r0⟩ := trodAll_cons hA
  obtain ⟨rfl, rfl, rfl⟩ := trodAll_nil r0
  obtain rfl : args = #[v0] := by cases args; simp_all
  obtain ⟨s, rfl, _, _, ws⟩ := open_string Tryd.underlying9 (hval 0 9 v0 rfl rfl) h0
  exact lawLexRoundTrip s ws W (env8 hL)
theorem lexerRoundTrip_met (os : Os) : laidMet Tryd.prog Rows.lexerRoundTripRow.laid ((laidWorld os).forCall (fun _ _ => 0) ⟨#[], #[.string ⟨#[]⟩], []⟩).memory :=
  laidMet_of_run' 8 (by kernel_rfl) (by kernel_rfl)
set_option maxRecDepth 100000 in
theorem lexerRoundTrip_lifted (os : Os) (started : os.Started) (H : Type) (enc : TypeId × Value → H) (F : Stop.Interp) :
    ReturnsInHanded {} Tryd.checked os 7 .any ((OpenSpec.ofChange Rows.lexerRoundTripSpec).preRow enc Tryd.prog Tryd.f7 Rows.lexerRoundTripRow.domain false Rows.lexerRoundTripRow.laid) (((OpenSpec.ofChange Rows.lexerRoundTripSpec).at F).post enc Tryd.prog Tryd.f7 false true false false) := by
  obtain ⟨places, hx⟩ : ∃ places, DataW.whole enc Tryd.prog ((laidWorld os).forCall (fun _ _ => 0) ⟨#[], #[.string ⟨#[]⟩], []⟩).memory Tryd.f7.params.toList Rows.lexerRoundTripSpec.vars false #[.string ⟨#[]⟩].toList 8 = some ([.lit (.string [])], [], places) := ⟨[], by kernel_rfl⟩
  exact law_liftedL (s := Rows.lexerRoundTripSpec) (laid := Rows.lexerRoundTripRow.laid) started (by kernel_rfl) Tryd.func7 rfl (by kernel_rfl) (by intro ds hl; match ds, hl with | [_], _ => rfl) (by kernel_rfl)
    (witness_row_at (enc := enc) (C := Tryd.checked) false (laidWorld os) #[.string ⟨#[]⟩] rfl (by kernel_rfl) (by kernel_rfl) (by kernel_rfl)
      (OpenSpec.preRow_of_cond 8 hx (by kernel_rfl) (fun k hk => by cases hk) (by kernel_rfl) (lexerRoundTrip_met os))) lexerRoundTrip_step F
set_option maxRecDepth 100000 in
theorem lexerRoundTrip_said : Rows.LexerRoundTripSaid :=
  OpenClaim.holds_of_cond 7 Tryd.f7 rfl rfl rfl rfl rfl rfl rfl ⟨rfl, rfl, rfl, rfl, rfl⟩ rfl rfl rfl rfl rfl (by kernel_rfl) Tryd.func7 (by kernel_rfl)
    (of_decide_eq_true (by kernel_rfl)) (by unfold Func.isWrapper; first | (rw [if_pos (by decide +kernel)]; kernel_rfl) | (rw [if_neg (by decide +kernel)]; exact ⟨rfl, rfl⟩))
    (fun os started H enc _ F => by rw [OpenClaim.pre_eq_preRow]; exact lexerRoundTrip_lifted os started H enc F)
theorem lexerRoundTrip_holds : Rows.LexerRoundTripCardSaid :=
  Claim7.holds_tied_plain_at .later [] _ _ _ _ lexerRoundTrip_said (fun _ h => by cases h) (by kernel_rfl) (fun _ h => by cases h) lexerRoundTrip_row_tie rfl ⟨rfl, rfl⟩ (by kernel_rfl) rfl (fun f fn hf hfn => plain_of (show Tryd.prog.funcNamed "guerdon/guerdonlaw08.LexerRoundTrip" = some 7 by kernel_rfl) Tryd.func7 (by kernel_rfl) (by kernel_rfl) f fn hf hfn) (by kernel_rfl)
#print axioms lexerRoundTrip_holds
end Go.Proofs.YtmlkgfacenajnaaDoor
