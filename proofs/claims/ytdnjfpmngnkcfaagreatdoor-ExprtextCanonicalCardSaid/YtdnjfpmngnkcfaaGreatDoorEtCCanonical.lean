/- The law ExprtextCanonical returns true: a text that Parse accepts is the text that Format returns for the result. For every input that the row allows; the tables that it lists hold what their text lays. -/
import Derived.Test.YtdnjfpmngnkcfaaGreatDoorEtF
namespace Go.Proofs.YtdnjfpmngnkcfaaGreatDoor
open Go.ChangeShapes Go.WideShapes Go.ChangeAt Go.RowKit Go.Joins
open Go.ChangeMaps (open_string shut_string)

set_option maxRecDepth 100000 in
theorem exprtextCanonical_step {H : Type} {enc : TypeId × Value → H} (W : World) (base : Nat) (args : Array Value) (ds : List (DataW H)) (ps : List MemPlace)
    (hval : ∀ (j : Nat) t v, Tryz.f4.params[j]? = some t → args[j]? = some v → Value.okWide Tryz.prog W .any base t v)
    (hA : DataW.TrodAll enc Tryz.prog W 0 (fun _ => true) true Tryz.f4.params.toList args.toList ds ps) (hL : laidMetH Tryz.prog Rows.exprtextCanonicalRow.laid W) (hWt : ∀ (j : Nat) t d, Tryz.f4.params.toList[j]? = some t → ds[j]? = some d → WtB t d) : Calls Tryz.prog 4 args W (LawPost W) := by
  rw [Tryz.params4] at hA hval hWt
  obtain ⟨v0, vs0, d0, ds0, p0, q0, hargs, rfl, rfl, h0, r0⟩ := trodAll_cons hA
  obtain ⟨v1, vs1, d1, ds1, p1, q1, rfl, rfl, rfl, h1, r1⟩ := trodAll_cons r0
  obtain ⟨rfl, rfl, rfl⟩ := trodAll_nil r1
  obtain rfl : args = #[v0, v1] := by cases args; simp_all
  obtain ⟨s, rfl, _, _, ws⟩ := open_string Tryz.underlying9 (hval 0 9 v0 rfl rfl) h0
  obtain ⟨nm, hnm, snm⟩ := open_names (hval 1 26 v1 rfl rfl) h1 (hWt 1 26 d1 rfl rfl)
  exact lawEtCanonical s v1 nm W ws hnm snm (env11 hL).1 (env11 hL).2
theorem exprtextCanonical_met (os : Os) : laidMet Tryz.prog Rows.exprtextCanonicalRow.laid ((laidWorld os).forCall (fun _ _ => 0) ⟨#[], #[.string ⟨#[]⟩, .agg #[.slice none 0 0, .slice none 0 0, .slice none 0 0, .slice none 0 0, .slice none 0 0]], []⟩).memory :=
  laidMet_of_run' 8 (by kernel_rfl) (by kernel_rfl)
set_option maxRecDepth 100000 in
theorem exprtextCanonical_lifted (os : Os) (started : os.Started) (H : Type) (enc : TypeId × Value → H) (F : Stop.Interp) :
    ReturnsInHanded {} Tryz.checked os 4 .any ((OpenSpec.ofChange Rows.exprtextCanonicalSpec).preRow enc Tryz.prog Tryz.f4 Rows.exprtextCanonicalRow.domain false Rows.exprtextCanonicalRow.laid) (((OpenSpec.ofChange Rows.exprtextCanonicalSpec).at F).post enc Tryz.prog Tryz.f4 false true false false) := by
  obtain ⟨places, hx⟩ : ∃ places, DataW.whole enc Tryz.prog ((laidWorld os).forCall (fun _ _ => 0) ⟨#[], #[.string ⟨#[]⟩, .agg #[.slice none 0 0, .slice none 0 0, .slice none 0 0, .slice none 0 0, .slice none 0 0]], []⟩).memory Tryz.f4.params.toList Rows.exprtextCanonicalSpec.vars false #[.string ⟨#[]⟩, .agg #[.slice none 0 0, .slice none 0 0, .slice none 0 0, .slice none 0 0, .slice none 0 0]].toList 8 = some ([.lit (.string []), .agg [.nil, .nil, .nil, .nil, .nil]], [], places) := ⟨[], by kernel_rfl⟩
  exact law_liftedW (s := Rows.exprtextCanonicalSpec) (laid := Rows.exprtextCanonicalRow.laid) started (by kernel_rfl) Tryz.func4 rfl (by kernel_rfl) (by intro ds hl; match ds, hl with | [_, _], _ => rfl) (by kernel_rfl)
    (witness_row_at (enc := enc) (C := Tryz.checked) false (laidWorld os) #[.string ⟨#[]⟩, .agg #[.slice none 0 0, .slice none 0 0, .slice none 0 0, .slice none 0 0, .slice none 0 0]] rfl (by kernel_rfl) (by kernel_rfl) (by kernel_rfl)
      (OpenSpec.preRow_of_cond 8 hx (by kernel_rfl) (fun k hk => by cases hk) (by kernel_rfl) (exprtextCanonical_met os))) exprtextCanonical_step F
set_option maxRecDepth 100000 in
theorem exprtextCanonical_said : Rows.ExprtextCanonicalSaid :=
  OpenClaim.holds_of_cond 4 Tryz.f4 rfl rfl rfl rfl rfl rfl rfl ⟨rfl, rfl, rfl, rfl, rfl⟩ rfl rfl rfl rfl rfl (by kernel_rfl) Tryz.func4 (by kernel_rfl)
    (of_decide_eq_true (by kernel_rfl)) (by unfold Func.isWrapper; first | (rw [if_pos (by decide +kernel)]; kernel_rfl) | (rw [if_neg (by decide +kernel)]; exact ⟨rfl, rfl⟩))
    (fun os started H enc _ F => by rw [OpenClaim.pre_eq_preRow]; exact exprtextCanonical_lifted os started H enc F)
theorem exprtextCanonical_holds : Rows.ExprtextCanonicalCardSaid :=
  Claim7.holds_tied_plain_at .later [] _ _ _ _ exprtextCanonical_said (fun _ h => by cases h) (by kernel_rfl) (fun _ h => by cases h) exprtextCanonical_row_tie rfl ⟨rfl, rfl⟩ (by kernel_rfl) rfl (fun f fn hf hfn => plain_of (show Tryz.prog.funcNamed "guerdon/guerdonlaw11.ExprtextCanonical" = some 4 by kernel_rfl) Tryz.func4 (by kernel_rfl) (by kernel_rfl) f fn hf hfn) (by kernel_rfl)
#print axioms exprtextCanonical_holds
end Go.Proofs.YtdnjfpmngnkcfaaGreatDoor
