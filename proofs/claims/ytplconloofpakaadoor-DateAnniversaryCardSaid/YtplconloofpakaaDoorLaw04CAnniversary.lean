/- The law DateAnniversary returns true: YearsBetween is the greatest number of years that can be added without passing the later date. For every input that the row allows; the tables that it lists hold what their text lays. -/
import Derived.Test.YtplconloofpakaaDoorLaw04D
namespace Go.Proofs.YtplconloofpakaaDoor
open Go.ChangeShapes Go.WideShapes Go.ChangeAt Go.RowKit Go.Joins
open Go.ChangeMaps (open_string shut_string)

set_option maxRecDepth 100000 in
theorem dateAnniversary_step {H : Type} {enc : TypeId × Value → H} (W : World) (base : Nat) (args : Array Value) (ds : List (DataW H)) (ps : List MemPlace)
    (hval : ∀ (j : Nat) t v, Tryd.f5.params[j]? = some t → args[j]? = some v → Value.okWide Tryd.prog W .any base t v)
    (hA : DataW.TrodAll enc Tryd.prog W 0 (fun _ => true) true Tryd.f5.params.toList args.toList ds ps) (hL : laidMetH Tryd.prog Rows.dateAnniversaryRow.laid W) : Calls Tryd.prog 5 args W (LawPost W) := by
  rw [Tryd.params5] at hA hval
  obtain ⟨v0, vs0, d0, ds0, p0, q0, hargs, rfl, rfl, h0, r0⟩ := trodAll_cons hA
  obtain ⟨v1, vs1, d1, ds1, p1, q1, rfl, rfl, rfl, h1, r1⟩ := trodAll_cons r0
  obtain ⟨rfl, rfl, rfl⟩ := trodAll_nil r1
  obtain rfl : args = #[v0, v1] := by cases args; simp_all
  obtain ⟨a, rfl, _, _, wa⟩ := open_int Tryd.underlying3 (hval 0 3 v0 rfl rfl) h0
  obtain ⟨b, rfl, _, _, wb⟩ := open_int Tryd.underlying3 (hval 1 3 v1 rfl rfl) h1
  exact lawAnniversary a b W (env4 hL).1 (env4 hL).2
theorem dateAnniversary_met (os : Os) : laidMet Tryd.prog Rows.dateAnniversaryRow.laid ((laidWorld os).forCall (fun _ _ => 0) ⟨#[], #[.int .i64 0, .int .i64 0], []⟩).memory :=
  laidMet_of_run' 8 (by kernel_rfl) (by kernel_rfl)
set_option maxRecDepth 100000 in
theorem dateAnniversary_lifted (os : Os) (started : os.Started) (H : Type) (enc : TypeId × Value → H) (F : Stop.Interp) :
    ReturnsInHanded {} Tryd.checked os 5 .any ((OpenSpec.ofChange Rows.dateAnniversarySpec).preRow enc Tryd.prog Tryd.f5 Rows.dateAnniversaryRow.domain false Rows.dateAnniversaryRow.laid) (((OpenSpec.ofChange Rows.dateAnniversarySpec).at F).post enc Tryd.prog Tryd.f5 false true false false) := by
  obtain ⟨places, hx⟩ : ∃ places, DataW.whole enc Tryd.prog ((laidWorld os).forCall (fun _ _ => 0) ⟨#[], #[.int .i64 0, .int .i64 0], []⟩).memory Tryd.f5.params.toList Rows.dateAnniversarySpec.vars false #[.int .i64 0, .int .i64 0].toList 8 = some ([.lit (.int .i64 0), .lit (.int .i64 0)], [], places) := ⟨[], by kernel_rfl⟩
  exact law_liftedL (s := Rows.dateAnniversarySpec) (laid := Rows.dateAnniversaryRow.laid) started (by kernel_rfl) Tryd.func5 rfl (by kernel_rfl) (by intro ds hl; match ds, hl with | [_, _], _ => rfl) (by kernel_rfl)
    (witness_row_at (enc := enc) (C := Tryd.checked) false (laidWorld os) #[.int .i64 0, .int .i64 0] rfl (by kernel_rfl) (by kernel_rfl) (by kernel_rfl)
      (OpenSpec.preRow_of_cond 8 hx (by kernel_rfl) (fun k hk => by cases hk) (by kernel_rfl) (dateAnniversary_met os))) dateAnniversary_step F
set_option maxRecDepth 100000 in
theorem dateAnniversary_said : Rows.DateAnniversarySaid :=
  OpenClaim.holds_of_cond 5 Tryd.f5 rfl rfl rfl rfl rfl rfl rfl ⟨rfl, rfl, rfl, rfl, rfl⟩ rfl rfl rfl rfl rfl (by kernel_rfl) Tryd.func5 (by kernel_rfl)
    (of_decide_eq_true (by kernel_rfl)) (by unfold Func.isWrapper; first | (rw [if_pos (by decide +kernel)]; kernel_rfl) | (rw [if_neg (by decide +kernel)]; exact ⟨rfl, rfl⟩))
    (fun os started H enc _ F => by rw [OpenClaim.pre_eq_preRow]; exact dateAnniversary_lifted os started H enc F)
theorem dateAnniversary_holds : Rows.DateAnniversaryCardSaid :=
  Claim7.holds_tied_plain_at .later [] _ _ _ _ dateAnniversary_said (fun _ h => by cases h) (by kernel_rfl) (fun _ h => by cases h) dateAnniversary_row_tie rfl ⟨rfl, rfl⟩ (by kernel_rfl) rfl (fun f fn hf hfn => plain_of (show Tryd.prog.funcNamed "guerdon/guerdonlaw04.DateAnniversary" = some 5 by kernel_rfl) Tryd.func5 (by kernel_rfl) (by kernel_rfl) f fn hf hfn) (by kernel_rfl)
#print axioms dateAnniversary_holds
end Go.Proofs.YtplconloofpakaaDoor
