/- The law ValueCanonical returns true: a text that can be parsed is the text of the result. For every input that the row allows; the tables that it lists hold what their text lays. -/
import Derived.Test.YtjdljholajacdaaDoorLaw09M
namespace Go.Proofs.YtjdljholajacdaaDoor
open Go.ChangeShapes Go.WideShapes Go.ChangeAt Go.RowKit Go.Joins
open Go.ChangeMaps (open_string shut_string)

set_option maxRecDepth 100000 in
theorem valueCanonical_step {H : Type} {enc : TypeId × Value → H} (W : World) (base : Nat) (args : Array Value) (ds : List (DataW H)) (ps : List MemPlace)
    (hval : ∀ (j : Nat) t v, Tryd.f7.params[j]? = some t → args[j]? = some v → Value.okWide Tryd.prog W .any base t v)
    (hA : DataW.TrodAll enc Tryd.prog W 0 (fun _ => true) true Tryd.f7.params.toList args.toList ds ps) (hL : laidMetH Tryd.prog Rows.valueCanonicalRow.laid W) : Calls Tryd.prog 7 args W (LawPost W) := by
  rw [Tryd.params7] at hA hval
  obtain ⟨v0, vs0, d0, ds0, p0, q0, hargs, rfl, rfl, h0, r0⟩ := trodAll_cons hA
  obtain ⟨v1, vs1, d1, ds1, p1, q1, rfl, rfl, rfl, h1, r1⟩ := trodAll_cons r0
  obtain ⟨v2, vs2, d2, ds2, p2, q2, rfl, rfl, rfl, h2, r2⟩ := trodAll_cons r1
  obtain ⟨rfl, rfl, rfl⟩ := trodAll_nil r2
  obtain rfl : args = #[v0, v1, v2] := by cases args; simp_all
  obtain ⟨s, rfl, _, _, ws⟩ := open_string Tryd.underlying9 (hval 0 9 v0 rfl rfl) h0
  obtain ⟨k, e, rfl⟩ := open_typ (hval 1 32 v1 rfl rfl) h1
  obtain ⟨ms, hms⟩ := open_enums (hval 2 24 v2 rfl rfl) h2
  exact lawCanon9 s k e _ ms ws W hms (env9 hL).1 (env9 hL).2
theorem valueCanonical_met (os : Os) : laidMet Tryd.prog Rows.valueCanonicalRow.laid ((laidWorld os).forCall (fun _ _ => 0) ⟨#[], #[.string ⟨#[]⟩, .agg #[.int .i64 0, .int .i64 0], .slice none 0 0], []⟩).memory :=
  laidMet_of_run' 8 (by kernel_rfl) (by kernel_rfl)
set_option maxRecDepth 100000 in
theorem valueCanonical_lifted (os : Os) (started : os.Started) (H : Type) (enc : TypeId × Value → H) (F : Stop.Interp) :
    ReturnsInHanded {} Tryd.checked os 7 .any ((OpenSpec.ofChange Rows.valueCanonicalSpec).preRow enc Tryd.prog Tryd.f7 Rows.valueCanonicalRow.domain false Rows.valueCanonicalRow.laid) (((OpenSpec.ofChange Rows.valueCanonicalSpec).at F).post enc Tryd.prog Tryd.f7 false true false false) := by
  obtain ⟨places, hx⟩ : ∃ places, DataW.whole enc Tryd.prog ((laidWorld os).forCall (fun _ _ => 0) ⟨#[], #[.string ⟨#[]⟩, .agg #[.int .i64 0, .int .i64 0], .slice none 0 0], []⟩).memory Tryd.f7.params.toList Rows.valueCanonicalSpec.vars false #[.string ⟨#[]⟩, .agg #[.int .i64 0, .int .i64 0], .slice none 0 0].toList 8 = some ([.lit (.string []), .agg [.lit (.int .i64 0), .lit (.int .i64 0)], .nil], [], places) := ⟨[], by kernel_rfl⟩
  exact law_liftedL (s := Rows.valueCanonicalSpec) (laid := Rows.valueCanonicalRow.laid) started (by kernel_rfl) Tryd.func7 rfl (by kernel_rfl) (by intro ds hl; match ds, hl with | [_, _, _], _ => rfl) (by kernel_rfl)
    (witness_row_at (enc := enc) (C := Tryd.checked) false (laidWorld os) #[.string ⟨#[]⟩, .agg #[.int .i64 0, .int .i64 0], .slice none 0 0] rfl (by kernel_rfl) (by kernel_rfl) (by kernel_rfl)
      (OpenSpec.preRow_of_cond 8 hx (by kernel_rfl) (fun k hk => by cases hk) (by kernel_rfl) (valueCanonical_met os))) valueCanonical_step F
set_option maxRecDepth 100000 in
theorem valueCanonical_said : Rows.ValueCanonicalSaid :=
  OpenClaim.holds_of_cond 7 Tryd.f7 rfl rfl rfl rfl rfl rfl rfl ⟨rfl, rfl, rfl, rfl, rfl⟩ rfl rfl rfl rfl rfl (by kernel_rfl) Tryd.func7 (by kernel_rfl)
    (of_decide_eq_true (by kernel_rfl)) (by unfold Func.isWrapper; first | (rw [if_pos (by decide +kernel)]; kernel_rfl) | (rw [if_neg (by decide +kernel)]; exact ⟨rfl, rfl⟩))
    (fun os started H enc _ F => by rw [OpenClaim.pre_eq_preRow]; exact valueCanonical_lifted os started H enc F)
theorem valueCanonical_holds : Rows.ValueCanonicalCardSaid :=
  Claim7.holds_tied_plain_at .later [] _ _ _ _ valueCanonical_said (fun _ h => by cases h) (by kernel_rfl) (fun _ h => by cases h) valueCanonical_row_tie rfl ⟨rfl, rfl⟩ (by kernel_rfl) rfl (fun f fn hf hfn => plain_of (show Tryd.prog.funcNamed "guerdon/guerdonlaw09.ValueCanonical" = some 7 by kernel_rfl) Tryd.func7 (by kernel_rfl) (by kernel_rfl) f fn hf hfn) (by kernel_rfl)
#print axioms valueCanonical_holds
end Go.Proofs.YtjdljholajacdaaDoor
