/- The law LexerOffsets returns true: the offsets of the tokens are increasing, and the text contains each token at its offset. For every input that the row allows; the table that it lists holds what its text lays. -/
import Derived.Test.YtmlkgfacenajnaaDoorLaw08B
namespace Go.Proofs.YtmlkgfacenajnaaDoor
open Go.ChangeShapes Go.WideShapes Go.ChangeAt Go.RowKit Go.Joins
open Go.ChangeMaps (open_string shut_string)

set_option maxRecDepth 100000 in
theorem lexerOffsets_step {H : Type} {enc : TypeId × Value → H} (W : World) (base : Nat) (args : Array Value) (ds : List (DataW H)) (ps : List MemPlace)
    (hval : ∀ (j : Nat) t v, Tryd.f5.params[j]? = some t → args[j]? = some v → Value.okWide Tryd.prog W .any base t v)
    (hA : DataW.TrodAll enc Tryd.prog W 0 (fun _ => true) true Tryd.f5.params.toList args.toList ds ps) (hL : laidMetH Tryd.prog Rows.lexerOffsetsRow.laid W) : Calls Tryd.prog 5 args W (LawPost W) := by
  rw [Tryd.params5] at hA hval
  obtain ⟨v0, vs0, d0, ds0, p0, q0, hargs, rfl, rfl, h0, r0⟩ := trodAll_cons hA
  obtain ⟨rfl, rfl, rfl⟩ := trodAll_nil r0
  obtain rfl : args = #[v0] := by cases args; simp_all
  obtain ⟨s, rfl, _, _, ws⟩ := open_string Tryd.underlying9 (hval 0 9 v0 rfl rfl) h0
  exact lawLexOffsets s ws W (env8 hL)
theorem lexerOffsets_met (os : Os) : laidMet Tryd.prog Rows.lexerOffsetsRow.laid ((laidWorld os).forCall (fun _ _ => 0) ⟨#[], #[.string ⟨#[]⟩], []⟩).memory :=
  laidMet_of_run' 8 (by kernel_rfl) (by kernel_rfl)
set_option maxRecDepth 100000 in
theorem lexerOffsets_lifted (os : Os) (started : os.Started) (H : Type) (enc : TypeId × Value → H) (F : Stop.Interp) :
    ReturnsInHanded {} Tryd.checked os 5 .any ((OpenSpec.ofChange Rows.lexerOffsetsSpec).preRow enc Tryd.prog Tryd.f5 Rows.lexerOffsetsRow.domain false Rows.lexerOffsetsRow.laid) (((OpenSpec.ofChange Rows.lexerOffsetsSpec).at F).post enc Tryd.prog Tryd.f5 false true false false) := by
  obtain ⟨places, hx⟩ : ∃ places, DataW.whole enc Tryd.prog ((laidWorld os).forCall (fun _ _ => 0) ⟨#[], #[.string ⟨#[]⟩], []⟩).memory Tryd.f5.params.toList Rows.lexerOffsetsSpec.vars false #[.string ⟨#[]⟩].toList 8 = some ([.lit (.string [])], [], places) := ⟨[], by kernel_rfl⟩
  exact law_liftedL (s := Rows.lexerOffsetsSpec) (laid := Rows.lexerOffsetsRow.laid) started (by kernel_rfl) Tryd.func5 rfl (by kernel_rfl) (by intro ds hl; match ds, hl with | [_], _ => rfl) (by kernel_rfl)
    (witness_row_at (enc := enc) (C := Tryd.checked) false (laidWorld os) #[.string ⟨#[]⟩] rfl (by kernel_rfl) (by kernel_rfl) (by kernel_rfl)
      (OpenSpec.preRow_of_cond 8 hx (by kernel_rfl) (fun k hk => by cases hk) (by kernel_rfl) (lexerOffsets_met os))) lexerOffsets_step F
set_option maxRecDepth 100000 in
theorem lexerOffsets_said : Rows.LexerOffsetsSaid :=
  OpenClaim.holds_of_cond 5 Tryd.f5 rfl rfl rfl rfl rfl rfl rfl ⟨rfl, rfl, rfl, rfl, rfl⟩ rfl rfl rfl rfl rfl (by kernel_rfl) Tryd.func5 (by kernel_rfl)
    (of_decide_eq_true (by kernel_rfl)) (by unfold Func.isWrapper; first | (rw [if_pos (by decide +kernel)]; kernel_rfl) | (rw [if_neg (by decide +kernel)]; exact ⟨rfl, rfl⟩))
    (fun os started H enc _ F => by rw [OpenClaim.pre_eq_preRow]; exact lexerOffsets_lifted os started H enc F)
theorem lexerOffsets_holds : Rows.LexerOffsetsCardSaid :=
  Claim7.holds_tied_plain_at .later [] _ _ _ _ lexerOffsets_said (fun _ h => by cases h) (by kernel_rfl) (fun _ h => by cases h) lexerOffsets_row_tie rfl ⟨rfl, rfl⟩ (by kernel_rfl) rfl (fun f fn hf hfn => plain_of (show Tryd.prog.funcNamed "guerdon/guerdonlaw08.LexerOffsets" = some 5 by kernel_rfl) Tryd.func5 (by kernel_rfl) (by kernel_rfl) f fn hf hfn) (by kernel_rfl)
#print axioms lexerOffsets_holds
end Go.Proofs.YtmlkgfacenajnaaDoor
