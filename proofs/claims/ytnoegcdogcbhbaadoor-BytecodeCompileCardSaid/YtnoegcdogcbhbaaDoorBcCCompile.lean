/- The law BytecodeCompile returns true: Compile returns the documented code, or the error of expr.Starts. For every input that the row allows; the tables that it lists hold what their text lays. -/
import Derived.Test.YtnoegcdogcbhbaaDoorBcM2
namespace Go.Proofs.YtnoegcdogcbhbaaDoor
open Go.ChangeShapes Go.WideShapes Go.ChangeAt Go.RowKit Go.Joins
open Go.ChangeMaps (open_string shut_string)

set_option maxRecDepth 100000 in
theorem bytecodeCompile_step {H : Type} {enc : TypeId × Value → H} (W : World) (base : Nat) (args : Array Value) (ds : List (DataW H)) (ps : List MemPlace)
    (hval : ∀ (j : Nat) t v, Tryd.f3.params[j]? = some t → args[j]? = some v → Value.okWide Tryd.prog W .any base t v)
    (hA : DataW.TrodAll enc Tryd.prog W 0 (fun _ => true) true Tryd.f3.params.toList args.toList ds ps) (hL : laidMetH Tryd.prog Rows.bytecodeCompileRow.laid W) (hS : W.ShapedOpen Tryd.prog) : Calls Tryd.prog 3 args W (LawPost W) := by
  rw [Tryd.params3] at hA hval
  obtain ⟨v0, vs0, d0, ds0, p0, q0, hargs, rfl, rfl, h0, r0⟩ := trodAll_cons hA
  obtain ⟨rfl, rfl, rfl⟩ := trodAll_nil r0
  obtain rfl : args = #[v0] := by cases args; simp_all
  obtain ⟨xs, hxs, nxs⟩ := open_nodes (hval 0 22 v0 rfl rfl) h0
  exact lawBcCompile v0 xs W hxs nxs (env26 hL) (envMax hS)
theorem bytecodeCompile_met (os : Os) : laidMet Tryd.prog Rows.bytecodeCompileRow.laid ((laidWorld os).forCall (fun _ _ => 0) ⟨#[], #[.slice none 0 0], []⟩).memory :=
  laidMet_of_run' 8 (by kernel_rfl) (by kernel_rfl)
set_option maxRecDepth 100000 in
theorem bytecodeCompile_lifted (os : Os) (started : os.Started) (H : Type) (enc : TypeId × Value → H) (F : Stop.Interp) :
    ReturnsInHanded {} Tryd.checked os 3 .any ((OpenSpec.ofChange Rows.bytecodeCompileSpec).preRow enc Tryd.prog Tryd.f3 Rows.bytecodeCompileRow.domain false Rows.bytecodeCompileRow.laid) (((OpenSpec.ofChange Rows.bytecodeCompileSpec).at F).post enc Tryd.prog Tryd.f3 false true false false) := by
  obtain ⟨places, hx⟩ : ∃ places, DataW.whole enc Tryd.prog ((laidWorld os).forCall (fun _ _ => 0) ⟨#[], #[.slice none 0 0], []⟩).memory Tryd.f3.params.toList Rows.bytecodeCompileSpec.vars false #[.slice none 0 0].toList 8 = some ([.nil], [], places) := ⟨[], by kernel_rfl⟩
  exact law_liftedS (s := Rows.bytecodeCompileSpec) (laid := Rows.bytecodeCompileRow.laid) started (by kernel_rfl) Tryd.func3 rfl (by kernel_rfl) (by intro ds hl; match ds, hl with | [_], _ => rfl) (by kernel_rfl)
    (witness_row_at (enc := enc) (C := Tryd.checked) false (laidWorld os) #[.slice none 0 0] rfl (by kernel_rfl) (by kernel_rfl) (by kernel_rfl)
      (OpenSpec.preRow_of_cond 8 hx (by kernel_rfl) (fun k hk => by cases hk) (by kernel_rfl) (bytecodeCompile_met os))) bytecodeCompile_step F
set_option maxRecDepth 100000 in
theorem bytecodeCompile_said : Rows.BytecodeCompileSaid :=
  OpenClaim.holds_of_cond 3 Tryd.f3 rfl rfl rfl rfl rfl rfl rfl ⟨rfl, rfl, rfl, rfl, rfl⟩ rfl rfl rfl rfl rfl (by kernel_rfl) Tryd.func3 (by kernel_rfl)
    (of_decide_eq_true (by kernel_rfl)) (by unfold Func.isWrapper; first | (rw [if_pos (by decide +kernel)]; kernel_rfl) | (rw [if_neg (by decide +kernel)]; exact ⟨rfl, rfl⟩))
    (fun os started H enc _ F => by rw [OpenClaim.pre_eq_preRow]; exact bytecodeCompile_lifted os started H enc F)
theorem bytecodeCompile_holds : Rows.BytecodeCompileCardSaid :=
  Claim7.holds_tied_plain_at .later [] _ _ _ _ bytecodeCompile_said (fun _ h => by cases h) (by kernel_rfl) (fun _ h => by cases h) bytecodeCompile_row_tie rfl ⟨rfl, rfl⟩ (by kernel_rfl) rfl (fun f fn hf hfn => plain_of (show Tryd.prog.funcNamed "guerdon/guerdonlaw26.BytecodeCompile" = some 3 by kernel_rfl) Tryd.func3 (by kernel_rfl) (by kernel_rfl) f fn hf hfn) (by kernel_rfl)
#print axioms bytecodeCompile_holds
end Go.Proofs.YtnoegcdogcbhbaaDoor
