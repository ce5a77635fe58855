/- The law BytecodeCanonical returns true: a text that Parse accepts is the text of the returned code. For every input that the row allows; the tables that it lists hold what their text lays. -/
import Derived.Test.YtnoegcdogcbhbaaDoorBcM2
namespace Go.Proofs.YtnoegcdogcbhbaaDoor
open Go.ChangeShapes Go.WideShapes Go.ChangeAt Go.RowKit Go.Joins
open Go.ChangeMaps (open_string shut_string)

set_option maxRecDepth 100000 in
theorem bytecodeCanonical_step {H : Type} {enc : TypeId × Value → H} (W : World) (base : Nat) (args : Array Value) (ds : List (DataW H)) (ps : List MemPlace)
    (hval : ∀ (j : Nat) t v, Tryd.f8.params[j]? = some t → args[j]? = some v → Value.okWide Tryd.prog W .any base t v)
    (hA : DataW.TrodAll enc Tryd.prog W 0 (fun _ => true) true Tryd.f8.params.toList args.toList ds ps) (hL : laidMetH Tryd.prog Rows.bytecodeCanonicalRow.laid W) (hS : W.ShapedOpen Tryd.prog) : Calls Tryd.prog 8 args W (LawPost W) := by
  rw [Tryd.params8] at hA hval
  obtain ⟨v0, vs0, d0, ds0, p0, q0, hargs, rfl, rfl, h0, r0⟩ := trodAll_cons hA
  obtain ⟨rfl, rfl, rfl⟩ := trodAll_nil r0
  obtain rfl : args = #[v0] := by cases args; simp_all
  obtain ⟨s, rfl, _, _, ws⟩ := open_string Tryd.underlying9 (hval 0 9 v0 rfl rfl) h0
  exact lawBcCanonical s ws W (env26 hL) (envMax hS)
theorem bytecodeCanonical_met (os : Os) : laidMet Tryd.prog Rows.bytecodeCanonicalRow.laid ((laidWorld os).forCall (fun _ _ => 0) ⟨#[], #[.string ⟨#[]⟩], []⟩).memory :=
  laidMet_of_run' 8 (by kernel_rfl) (by kernel_rfl)
set_option maxRecDepth 100000 in
theorem bytecodeCanonical_lifted (os : Os) (started : os.Started) (H : Type) (enc : TypeId × Value → H) (F : Stop.Interp) :
    ReturnsInHanded {} Tryd.checked os 8 .any ((OpenSpec.ofChange Rows.bytecodeCanonicalSpec).preRow enc Tryd.prog Tryd.f8 Rows.bytecodeCanonicalRow.domain false Rows.bytecodeCanonicalRow.laid) (((OpenSpec.ofChange Rows.bytecodeCanonicalSpec).at F).post enc Tryd.prog Tryd.f8 false true false false) := by
  obtain ⟨places, hx⟩ : ∃ places, DataW.whole enc Tryd.prog ((laidWorld os).forCall (fun _ _ => 0) ⟨#[], #[.string ⟨#[]⟩], []⟩).memory Tryd.f8.params.toList Rows.bytecodeCanonicalSpec.vars false #[.string ⟨#[]⟩].toList 8 = some ([.lit (.string [])], [], places) := ⟨[], by kernel_rfl⟩
  exact law_liftedS (s := Rows.bytecodeCanonicalSpec) (laid := Rows.bytecodeCanonicalRow.laid) started (by kernel_rfl) Tryd.func8 rfl (by kernel_rfl) (by intro ds hl; match ds, hl with | [_], _ => rfl) (by kernel_rfl)
    (witness_row_at (enc := enc) (C := Tryd.checked) false (laidWorld os) #[.string ⟨#[]⟩] rfl (by kernel_rfl) (by kernel_rfl) (by kernel_rfl)
      (OpenSpec.preRow_of_cond 8 hx (by kernel_rfl) (fun k hk => by cases hk) (by kernel_rfl) (bytecodeCanonical_met os))) bytecodeCanonical_step F
set_option maxRecDepth 100000 in
theorem bytecodeCanonical_said : Rows.BytecodeCanonicalSaid :=
  OpenClaim.holds_of_cond 8 Tryd.f8 rfl rfl rfl rfl rfl rfl rfl ⟨rfl, rfl, rfl, rfl, rfl⟩ rfl rfl rfl rfl rfl (by kernel_rfl) Tryd.func8 (by kernel_rfl)
    (of_decide_eq_true (by kernel_rfl)) (by unfold Func.isWrapper; first | (rw [if_pos (by decide +kernel)]; kernel_rfl) | (rw [if_neg (by decide +kernel)]; exact ⟨rfl, rfl⟩))
    (fun os started H enc _ F => by rw [OpenClaim.pre_eq_preRow]; exact bytecodeCanonical_lifted os started H enc F)
theorem bytecodeCanonical_holds : Rows.BytecodeCanonicalCardSaid :=
  Claim7.holds_tied_plain_at .later [] _ _ _ _ bytecodeCanonical_said (fun _ h => by cases h) (by kernel_rfl) (fun _ h => by cases h) bytecodeCanonical_row_tie rfl ⟨rfl, rfl⟩ (by kernel_rfl) rfl (fun f fn hf hfn => plain_of (show Tryd.prog.funcNamed "guerdon/guerdonlaw26.BytecodeCanonical" = some 8 by kernel_rfl) Tryd.func8 (by kernel_rfl) (by kernel_rfl) f fn hf hfn) (by kernel_rfl)
#print axioms bytecodeCanonical_holds
end Go.Proofs.YtnoegcdogcbhbaaDoor
