/- The law NumtextCanonical returns true: every accepted string is the formatted form of the number it denotes, and lines concatenate to the text. For every input that the row allows; the tables that it lists hold what their text lays. -/
import Derived.Test.YtplconloofpakaaDoorLaw01D
namespace Go.Proofs.YtplconloofpakaaDoor
open Go.ChangeShapes Go.WideShapes Go.ChangeAt Go.RowKit Go.Joins
open Go.ChangeMaps (open_string shut_string)

set_option maxRecDepth 100000 in
theorem numtextCanonical_step {H : Type} {enc : TypeId × Value → H} (W : World) (base : Nat) (args : Array Value) (ds : List (DataW H)) (ps : List MemPlace)
    (hval : ∀ (j : Nat) t v, Tryd.f13.params[j]? = some t → args[j]? = some v → Value.okWide Tryd.prog W .any base t v)
    (hA : DataW.TrodAll enc Tryd.prog W 0 (fun _ => true) true Tryd.f13.params.toList args.toList ds ps) (hL : laidMetH Tryd.prog Rows.numtextCanonicalRow.laid W) : Calls Tryd.prog 13 args W (LawPost W) := by
  rw [Tryd.params13] at hA hval
  obtain ⟨v0, vs0, d0, ds0, p0, q0, hargs, rfl, rfl, h0, r0⟩ := trodAll_cons hA
  obtain ⟨v1, vs1, d1, ds1, p1, q1, rfl, rfl, rfl, h1, r1⟩ := trodAll_cons r0
  obtain ⟨rfl, rfl, rfl⟩ := trodAll_nil r1
  obtain rfl : args = #[v0, v1] := by cases args; simp_all
  obtain ⟨s, rfl, _, _, ws⟩ := open_string Tryd.underlying9 (hval 0 9 v0 rfl rfl) h0
  obtain ⟨p, rfl, _, _, wp⟩ := open_int Tryd.underlying3 (hval 1 3 v1 rfl rfl) h1
  exact lawCanon s p W (env3 hL)
theorem numtextCanonical_met (os : Os) : laidMet Tryd.prog Rows.numtextCanonicalRow.laid ((laidWorld os).forCall (fun _ _ => 0) ⟨#[], #[.string ⟨#[]⟩, .int .i64 0], []⟩).memory :=
  laidMet_of_run' 8 (by kernel_rfl) (by kernel_rfl)
set_option maxRecDepth 100000 in
theorem numtextCanonical_lifted (os : Os) (started : os.Started) (H : Type) (enc : TypeId × Value → H) (F : Stop.Interp) :
    ReturnsInHanded {} Tryd.checked os 13 .any ((OpenSpec.ofChange Rows.numtextCanonicalSpec).preRow enc Tryd.prog Tryd.f13 Rows.numtextCanonicalRow.domain false Rows.numtextCanonicalRow.laid) (((OpenSpec.ofChange Rows.numtextCanonicalSpec).at F).post enc Tryd.prog Tryd.f13 false true false false) := by
  obtain ⟨places, hx⟩ : ∃ places, DataW.whole enc Tryd.prog ((laidWorld os).forCall (fun _ _ => 0) ⟨#[], #[.string ⟨#[]⟩, .int .i64 0], []⟩).memory Tryd.f13.params.toList Rows.numtextCanonicalSpec.vars false #[.string ⟨#[]⟩, .int .i64 0].toList 8 = some ([.lit (.string []), .lit (.int .i64 0)], [], places) := ⟨[], by kernel_rfl⟩
  exact law_liftedL (s := Rows.numtextCanonicalSpec) (laid := Rows.numtextCanonicalRow.laid) started (by kernel_rfl) Tryd.func13 rfl (by kernel_rfl) (by intro ds hl; match ds, hl with | [_, _], _ => rfl) (by kernel_rfl)
    (witness_row_at (enc := enc) (C := Tryd.checked) false (laidWorld os) #[.string ⟨#[]⟩, .int .i64 0] rfl (by kernel_rfl) (by kernel_rfl) (by kernel_rfl)
      (OpenSpec.preRow_of_cond 8 hx (by kernel_rfl) (fun k hk => by cases hk) (by kernel_rfl) (numtextCanonical_met os))) numtextCanonical_step F
set_option maxRecDepth 100000 in
theorem numtextCanonical_said : Rows.NumtextCanonicalSaid :=
  OpenClaim.holds_of_cond 13 Tryd.f13 rfl rfl rfl rfl rfl rfl rfl ⟨rfl, rfl, rfl, rfl, rfl⟩ rfl rfl rfl rfl rfl (by kernel_rfl) Tryd.func13 (by kernel_rfl)
    (of_decide_eq_true (by kernel_rfl)) (by unfold Func.isWrapper; first | (rw [if_pos (by decide +kernel)]; kernel_rfl) | (rw [if_neg (by decide +kernel)]; exact ⟨rfl, rfl⟩))
    (fun os started H enc _ F => by rw [OpenClaim.pre_eq_preRow]; exact numtextCanonical_lifted os started H enc F)
theorem numtextCanonical_holds : Rows.NumtextCanonicalCardSaid :=
  Claim7.holds_tied_plain_at .later [] _ _ _ _ numtextCanonical_said (fun _ h => by cases h) (by kernel_rfl) (fun _ h => by cases h) numtextCanonical_row_tie rfl ⟨rfl, rfl⟩ (by kernel_rfl) rfl (fun f fn hf hfn => plain_of (show Tryd.prog.funcNamed "guerdon/guerdonlaw01.NumtextCanonical" = some 13 by kernel_rfl) Tryd.func13 (by kernel_rfl) (by kernel_rfl) f fn hf hfn) (by kernel_rfl)
#print axioms numtextCanonical_holds
end Go.Proofs.YtplconloofpakaaDoor
