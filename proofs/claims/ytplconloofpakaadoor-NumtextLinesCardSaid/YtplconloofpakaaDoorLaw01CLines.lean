/- The law NumtextLines returns true: SplitLines returns the lines of any text or the first error. For every input that the row allows; the tables that it lists hold what their text lays. -/
import Derived.Test.YtplconloofpakaaDoorLaw01B
namespace Go.Proofs.YtplconloofpakaaDoor
open Go.ChangeShapes Go.WideShapes Go.ChangeAt Go.RowKit Go.Joins
open Go.ChangeMaps (open_string shut_string)

set_option maxRecDepth 100000 in
theorem numtextLines_step {H : Type} {enc : TypeId × Value → H} (W : World) (base : Nat) (args : Array Value) (ds : List (DataW H)) (ps : List MemPlace)
    (hval : ∀ (j : Nat) t v, Tryd.f11.params[j]? = some t → args[j]? = some v → Value.okWide Tryd.prog W .any base t v)
    (hA : DataW.TrodAll enc Tryd.prog W 0 (fun _ => true) true Tryd.f11.params.toList args.toList ds ps) (hL : laidMetH Tryd.prog Rows.numtextLinesRow.laid W) : Calls Tryd.prog 11 args W (LawPost W) := by
  rw [Tryd.params11] at hA hval
  obtain ⟨v0, vs0, d0, ds0, p0, q0, hargs, rfl, rfl, h0, r0⟩ := trodAll_cons hA
  obtain ⟨rfl, rfl, rfl⟩ := trodAll_nil r0
  obtain rfl : args = #[v0] := by cases args; simp_all
  obtain ⟨s, rfl, _, _, ws⟩ := open_string Tryd.underlying9 (hval 0 9 v0 rfl rfl) h0
  exact lawLines s W (env3 hL)
theorem numtextLines_met (os : Os) : laidMet Tryd.prog Rows.numtextLinesRow.laid ((laidWorld os).forCall (fun _ _ => 0) ⟨#[], #[.string ⟨#[]⟩], []⟩).memory :=
  laidMet_of_run' 8 (by kernel_rfl) (by kernel_rfl)
set_option maxRecDepth 100000 in
theorem numtextLines_lifted (os : Os) (started : os.Started) (H : Type) (enc : TypeId × Value → H) (F : Stop.Interp) :
    ReturnsInHanded {} Tryd.checked os 11 .any ((OpenSpec.ofChange Rows.numtextLinesSpec).preRow enc Tryd.prog Tryd.f11 Rows.numtextLinesRow.domain false Rows.numtextLinesRow.laid) (((OpenSpec.ofChange Rows.numtextLinesSpec).at F).post enc Tryd.prog Tryd.f11 false true false false) := by
  obtain ⟨places, hx⟩ : ∃ places, DataW.whole enc Tryd.prog ((laidWorld os).forCall (fun _ _ => 0) ⟨#[], #[.string ⟨#[]⟩], []⟩).memory Tryd.f11.params.toList Rows.numtextLinesSpec.vars false #[.string ⟨#[]⟩].toList 8 = some ([.lit (.string [])], [], places) := ⟨[], by kernel_rfl⟩
  exact law_liftedL (s := Rows.numtextLinesSpec) (laid := Rows.numtextLinesRow.laid) started (by kernel_rfl) Tryd.func11 rfl (by kernel_rfl) (by intro ds hl; match ds, hl with | [_], _ => rfl) (by kernel_rfl)
    (witness_row_at (enc := enc) (C := Tryd.checked) false (laidWorld os) #[.string ⟨#[]⟩] rfl (by kernel_rfl) (by kernel_rfl) (by kernel_rfl)
      (OpenSpec.preRow_of_cond 8 hx (by kernel_rfl) (fun k hk => by cases hk) (by kernel_rfl) (numtextLines_met os))) numtextLines_step F
set_option maxRecDepth 100000 in
theorem numtextLines_said : Rows.NumtextLinesSaid :=
  OpenClaim.holds_of_cond 11 Tryd.f11 rfl rfl rfl rfl rfl rfl rfl ⟨rfl, rfl, rfl, rfl, rfl⟩ rfl rfl rfl rfl rfl (by kernel_rfl) Tryd.func11 (by kernel_rfl)
    (of_decide_eq_true (by kernel_rfl)) (by unfold Func.isWrapper; first | (rw [if_pos (by decide +kernel)]; kernel_rfl) | (rw [if_neg (by decide +kernel)]; exact ⟨rfl, rfl⟩))
    (fun os started H enc _ F => by rw [OpenClaim.pre_eq_preRow]; exact numtextLines_lifted os started H enc F)
theorem numtextLines_holds : Rows.NumtextLinesCardSaid :=
  Claim7.holds_tied_plain_at .later [] _ _ _ _ numtextLines_said (fun _ h => by cases h) (by kernel_rfl) (fun _ h => by cases h) numtextLines_row_tie rfl ⟨rfl, rfl⟩ (by kernel_rfl) rfl (fun f fn hf hfn => plain_of (show Tryd.prog.funcNamed "guerdon/guerdonlaw01.NumtextLines" = some 11 by kernel_rfl) Tryd.func11 (by kernel_rfl) (by kernel_rfl) f fn hf hfn) (by kernel_rfl)
#print axioms numtextLines_holds
end Go.Proofs.YtplconloofpakaaDoor
