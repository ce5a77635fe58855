/- The law NumtextFields returns true: Fields returns the words of any string. For every input that the row allows; the tables that it lists hold what their text lays. -/
import Derived.Test.YtplconloofpakaaDoorLaw01B
namespace Go.Proofs.YtplconloofpakaaDoor
open Go.ChangeShapes Go.WideShapes Go.ChangeAt Go.RowKit Go.Joins
open Go.ChangeMaps (open_string shut_string)

set_option maxRecDepth 100000 in
theorem numtextFields_step {H : Type} {enc : TypeId × Value → H} (W : World) (base : Nat) (args : Array Value) (ds : List (DataW H)) (ps : List MemPlace)
    (hval : ∀ (j : Nat) t v, Tryd.f10.params[j]? = some t → args[j]? = some v → Value.okWide Tryd.prog W .any base t v)
    (hA : DataW.TrodAll enc Tryd.prog W 0 (fun _ => true) true Tryd.f10.params.toList args.toList ds ps) (hL : laidMetH Tryd.prog Rows.numtextFieldsRow.laid W) : Calls Tryd.prog 10 args W (LawPost W) := by
  rw [Tryd.params10] at hA hval
  obtain ⟨v0, vs0, d0, ds0, p0, q0, hargs, rfl, rfl, h0, r0⟩ := trodAll_cons hA
  obtain ⟨rfl, rfl, rfl⟩ := trodAll_nil r0
  obtain rfl : args = #[v0] := by cases args; simp_all
  obtain ⟨s, rfl, _, _, ws⟩ := open_string Tryd.underlying9 (hval 0 9 v0 rfl rfl) h0
  exact lawFieldsN s W (env3 hL)
theorem numtextFields_met (os : Os) : laidMet Tryd.prog Rows.numtextFieldsRow.laid ((laidWorld os).forCall (fun _ _ => 0) ⟨#[], #[.string ⟨#[]⟩], []⟩).memory :=
  laidMet_of_run' 8 (by kernel_rfl) (by kernel_rfl)
set_option maxRecDepth 100000 in
theorem numtextFields_lifted (os : Os) (started : os.Started) (H : Type) (enc : TypeId × Value → H) (F : Stop.Interp) :
    ReturnsInHanded {} Tryd.checked os 10 .any ((OpenSpec.ofChange Rows.numtextFieldsSpec).preRow enc Tryd.prog Tryd.f10 Rows.numtextFieldsRow.domain false Rows.numtextFieldsRow.laid) (((OpenSpec.ofChange Rows.numtextFieldsSpec).at F).post enc Tryd.prog Tryd.f10 false true false false) := by
  obtain ⟨places, hx⟩ : ∃ places, DataW.whole enc Tryd.prog ((laidWorld os).forCall (fun _ _ => 0) ⟨#[], #[.string ⟨#[]⟩], []⟩).memory Tryd.f10.params.toList Rows.numtextFieldsSpec.vars false #[.string ⟨#[]⟩].toList 8 = some ([.lit (.string [])], [], places) := ⟨[], by kernel_rfl⟩
  exact law_liftedL (s := Rows.numtextFieldsSpec) (laid := Rows.numtextFieldsRow.laid) started (by kernel_rfl) Tryd.func10 rfl (by kernel_rfl) (by intro ds hl; match ds, hl with | [_], _ => rfl) (by kernel_rfl)
    (witness_row_at (enc := enc) (C := Tryd.checked) false (laidWorld os) #[.string ⟨#[]⟩] rfl (by kernel_rfl) (by kernel_rfl) (by kernel_rfl)
      (OpenSpec.preRow_of_cond 8 hx (by kernel_rfl) (fun k hk => by cases hk) (by kernel_rfl) (numtextFields_met os))) numtextFields_step F
set_option maxRecDepth 100000 in
theorem numtextFields_said : Rows.NumtextFieldsSaid :=
  OpenClaim.holds_of_cond 10 Tryd.f10 rfl rfl rfl rfl rfl rfl rfl ⟨rfl, rfl, rfl, rfl, rfl⟩ rfl rfl rfl rfl rfl (by kernel_rfl) Tryd.func10 (by kernel_rfl)
    (of_decide_eq_true (by kernel_rfl)) (by unfold Func.isWrapper; first | (rw [if_pos (by decide +kernel)]; kernel_rfl) | (rw [if_neg (by decide +kernel)]; exact ⟨rfl, rfl⟩))
    (fun os started H enc _ F => by rw [OpenClaim.pre_eq_preRow]; exact numtextFields_lifted os started H enc F)
theorem numtextFields_holds : Rows.NumtextFieldsCardSaid :=
  Claim7.holds_tied_plain_at .later [] _ _ _ _ numtextFields_said (fun _ h => by cases h) (by kernel_rfl) (fun _ h => by cases h) numtextFields_row_tie rfl ⟨rfl, rfl⟩ (by kernel_rfl) rfl (fun f fn hf hfn => plain_of (show Tryd.prog.funcNamed "guerdon/guerdonlaw01.NumtextFields" = some 10 by kernel_rfl) Tryd.func10 (by kernel_rfl) (by kernel_rfl) f fn hf hfn) (by kernel_rfl)
#print axioms numtextFields_holds
end Go.Proofs.YtplconloofpakaaDoor
