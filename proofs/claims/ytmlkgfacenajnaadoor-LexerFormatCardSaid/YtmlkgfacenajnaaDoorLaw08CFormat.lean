/- The law LexerFormat returns true: Format's text and error are the reference's, for every list of tokens within the law's bounds that the row allows; the table that it lists holds what its text lays. -/
import Derived.Test.YtmlkgfacenajnaaDoorLaw08E
import Derived.Test.YtmlkgfacenajnaaDoorOpenToks
namespace Go.Proofs.YtmlkgfacenajnaaDoor
open Go.ChangeShapes Go.WideShapes Go.ChangeAt Go.RowKit Go.Joins
open Go.ChangeMaps (open_string shut_string)

set_option maxRecDepth 100000 in
theorem lexerFormat_step {H : Type} {enc : TypeId × Value → H} (W : World) (base : Nat) (args : Array Value) (ds : List (DataW H)) (ps : List MemPlace)
    (hval : ∀ (j : Nat) t v, Tryd.f6.params[j]? = some t → args[j]? = some v → Value.okWide Tryd.prog W .any base t v)
    (hA : DataW.TrodAll enc Tryd.prog W 0 (fun _ => true) true Tryd.f6.params.toList args.toList ds ps) (hL : laidMetH Tryd.prog Rows.lexerFormatRow.laid W) : Calls Tryd.prog 6 args W (LawPost W) := by
  rw [Tryd.params6] at hA hval
  obtain ⟨v0, vs0, d0, ds0, p0, q0, hargs, rfl, rfl, h0, r0⟩ := trodAll_cons hA
  obtain ⟨rfl, rfl, rfl⟩ := trodAll_nil r0
  obtain rfl : args = #[v0] := by cases args; simp_all
  obtain ⟨xs, hxs, nxs, txs⟩ := open_toks (hval 0 23 v0 rfl rfl) h0
  exact lawLexFormat v0 xs W hxs nxs txs (env8 hL)
theorem lexerFormat_met (os : Os) : laidMet Tryd.prog Rows.lexerFormatRow.laid ((laidWorld os).forCall (fun _ _ => 0) ⟨#[], #[.slice none 0 0], []⟩).memory :=
  laidMet_of_run' 8 (by kernel_rfl) (by kernel_rfl)
set_option maxRecDepth 100000 in
theorem lexerFormat_lifted (os : Os) (started : os.Started) (H : Type) (enc : TypeId × Value → H) (F : Stop.Interp) :
    ReturnsInHanded {} Tryd.checked os 6 .any ((OpenSpec.ofChange Rows.lexerFormatSpec).preRow enc Tryd.prog Tryd.f6 Rows.lexerFormatRow.domain false Rows.lexerFormatRow.laid) (((OpenSpec.ofChange Rows.lexerFormatSpec).at F).post enc Tryd.prog Tryd.f6 false true false false) := by
  obtain ⟨places, hx⟩ : ∃ places, DataW.whole enc Tryd.prog ((laidWorld os).forCall (fun _ _ => 0) ⟨#[], #[.slice none 0 0], []⟩).memory Tryd.f6.params.toList Rows.lexerFormatSpec.vars false #[.slice none 0 0].toList 8 = some ([.nil], [], places) := ⟨[], by kernel_rfl⟩
  exact law_liftedL (s := Rows.lexerFormatSpec) (laid := Rows.lexerFormatRow.laid) started (by kernel_rfl) Tryd.func6 rfl (by kernel_rfl) (by intro ds hl; match ds, hl with | [_], _ => rfl) (by kernel_rfl)
    (witness_row_at (enc := enc) (C := Tryd.checked) false (laidWorld os) #[.slice none 0 0] rfl (by kernel_rfl) (by kernel_rfl) (by kernel_rfl)
      (OpenSpec.preRow_of_cond 8 hx (by kernel_rfl) (fun k hk => by cases hk) (by kernel_rfl) (lexerFormat_met os))) lexerFormat_step F
set_option maxRecDepth 100000 in
theorem lexerFormat_said : Rows.LexerFormatSaid :=
  OpenClaim.holds_of_cond 6 Tryd.f6 rfl rfl rfl rfl rfl rfl rfl ⟨rfl, rfl, rfl, rfl, rfl⟩ rfl rfl rfl rfl rfl (by kernel_rfl) Tryd.func6 (by kernel_rfl)
    (of_decide_eq_true (by kernel_rfl)) (by unfold Func.isWrapper; first | (rw [if_pos (by decide +kernel)]; kernel_rfl) | (rw [if_neg (by decide +kernel)]; exact ⟨rfl, rfl⟩))
    (fun os started H enc _ F => by rw [OpenClaim.pre_eq_preRow]; exact lexerFormat_lifted os started H enc F)
theorem lexerFormat_holds : Rows.LexerFormatCardSaid :=
  Claim7.holds_tied_plain_at .later [] _ _ _ _ lexerFormat_said (fun _ h => by cases h) (by kernel_rfl) (fun _ h => by cases h) lexerFormat_row_tie rfl ⟨rfl, rfl⟩ (by kernel_rfl) rfl (fun f fn hf hfn => plain_of (show Tryd.prog.funcNamed "guerdon/guerdonlaw08.LexerFormat" = some 6 by kernel_rfl) Tryd.func6 (by kernel_rfl) (by kernel_rfl) f fn hf hfn) (by kernel_rfl)
#print axioms lexerFormat_holds
end Go.Proofs.YtmlkgfacenajnaaDoor
