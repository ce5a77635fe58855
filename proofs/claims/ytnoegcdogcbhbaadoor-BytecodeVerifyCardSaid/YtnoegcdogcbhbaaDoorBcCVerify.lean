/- The law BytecodeVerify returns true: Verify returns the maximal depth of code, or its first error. For every input that the row allows; the tables that it lists hold what their text lays. -/
import Derived.Test.YtnoegcdogcbhbaaDoorBcM2
namespace Go.Proofs.YtnoegcdogcbhbaaDoor
open Go.ChangeShapes Go.WideShapes Go.ChangeAt Go.RowKit Go.Joins
open Go.ChangeMaps (open_string shut_string)

set_option maxRecDepth 100000 in
theorem bytecodeVerify_step {H : Type} {enc : TypeId × Value → H} (W : World) (base : Nat) (args : Array Value) (ds : List (DataW H)) (ps : List MemPlace)
    (hval : ∀ (j : Nat) t v, Tryd.f4.params[j]? = some t → args[j]? = some v → Value.okWide Tryd.prog W .any base t v)
    (hA : DataW.TrodAll enc Tryd.prog W 0 (fun _ => true) true Tryd.f4.params.toList args.toList ds ps) (hL : laidMetH Tryd.prog Rows.bytecodeVerifyRow.laid W) (hS : W.ShapedOpen Tryd.prog) : Calls Tryd.prog 4 args W (LawPost W) := by
  rw [Tryd.params4] at hA hval
  obtain ⟨v0, vs0, d0, ds0, p0, q0, hargs, rfl, rfl, h0, r0⟩ := trodAll_cons hA
  obtain ⟨rfl, rfl, rfl⟩ := trodAll_nil r0
  obtain rfl : args = #[v0] := by cases args; simp_all
  obtain ⟨xs, hxs, nxs⟩ := open_nodes (hval 0 22 v0 rfl rfl) h0
  exact lawBcVerify v0 xs W hxs nxs (env26 hL) (envMax hS)
theorem bytecodeVerify_met (os : Os) : laidMet Tryd.prog Rows.bytecodeVerifyRow.laid ((laidWorld os).forCall (fun _ _ => 0) ⟨#[], #[.slice none 0 0], []⟩).memory :=
  laidMet_of_run' 8 (by kernel_rfl) (by kernel_rfl)
set_option maxRecDepth 100000 in
theorem bytecodeVerify_lifted (os : Os) (started : os.Started) (H : Type) (enc : TypeId × Value → H) (F : Stop.Interp) :
    ReturnsInHanded {} Tryd.checked os 4 .any ((OpenSpec.ofChange Rows.bytecodeVerifySpec).preRow enc Tryd.prog Tryd.f4 Rows.bytecodeVerifyRow.domain false Rows.bytecodeVerifyRow.laid) (((OpenSpec.ofChange Rows.bytecodeVerifySpec).at F).post enc Tryd.prog Tryd.f4 false true false false) := by
  obtain ⟨places, hx⟩ : ∃ places, DataW.whole enc Tryd.prog ((laidWorld os).forCall (fun _ _ => 0) ⟨#[], #[.slice none 0 0], []⟩).memory Tryd.f4.params.toList Rows.bytecodeVerifySpec.vars false #[.slice none 0 0].toList 8 = some ([.nil], [], places) := ⟨[], by kernel_rfl⟩
  exact law_liftedS (s := Rows.bytecodeVerifySpec) (laid := Rows.bytecodeVerifyRow.laid) started (by kernel_rfl) Tryd.func4 rfl (by kernel_rfl) (by intro ds hl; match ds, hl with | [_], _ => rfl) (by kernel_rfl)
    (witness_row_at (enc := enc) (C := Tryd.checked) false (laidWorld os) #[.slice none 0 0] rfl (by kernel_rfl) (by kernel_rfl) (by kernel_rfl)
      (OpenSpec.preRow_of_cond 8 hx (by kernel_rfl) (fun k hk => by cases hk) (by kernel_rfl) (bytecodeVerify_met os))) bytecodeVerify_step F
set_option maxRecDepth 100000 in
theorem bytecodeVerify_said : Rows.BytecodeVerifySaid :=
  OpenClaim.holds_of_cond 4 Tryd.f4 rfl rfl rfl rfl rfl rfl rfl ⟨rfl, rfl, rfl, rfl, rfl⟩ rfl rfl rfl rfl rfl (by kernel_rfl) Tryd.func4 (by kernel_rfl)
    (of_decide_eq_true (by kernel_rfl)) (by unfold Func.isWrapper; first | (rw [if_pos (by decide +kernel)]; kernel_rfl) | (rw [if_neg (by decide +kernel)]; exact ⟨rfl, rfl⟩))
    (fun os started H enc _ F => by rw [OpenClaim.pre_eq_preRow]; exact bytecodeVerify_lifted os started H enc F)
theorem bytecodeVerify_holds : Rows.BytecodeVerifyCardSaid :=
  Claim7.holds_tied_plain_at .later [] _ _ _ _ bytecodeVerify_said (fun _ h => by cases h) (by kernel_rfl) (fun _ h => by cases h) bytecodeVerify_row_tie rfl ⟨rfl, rfl⟩ (by kernel_rfl) rfl (fun f fn hf hfn => plain_of (show Tryd.prog.funcNamed "guerdon/guerdonlaw26.BytecodeVerify" = some 4 by kernel_rfl) Tryd.func4 (by kernel_rfl) (by kernel_rfl) f fn hf hfn) (by kernel_rfl)
#print axioms bytecodeVerify_holds
end Go.Proofs.YtnoegcdogcbhbaaDoor
