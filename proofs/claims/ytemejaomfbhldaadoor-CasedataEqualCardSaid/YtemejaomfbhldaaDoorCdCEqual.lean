/- The law CasedataEqual returns true: Equal reports whether all fields of two cases are equal. For every input that the row allows; the tables that it lists hold what their text lays. -/
import Derived.Test.YtemejaomfbhldaaDoorCdEq
namespace Go.Proofs.YtemejaomfbhldaaDoor
open Go.ChangeShapes Go.WideShapes Go.ChangeAt Go.RowKit Go.Joins
open Go.ChangeMaps (open_string shut_string)

set_option maxRecDepth 100000 in
theorem casedataEqual_step {H : Type} {enc : TypeId × Value → H} (W : World) (base : Nat) (args : Array Value) (ds : List (DataW H)) (ps : List MemPlace)
    (hval : ∀ (j : Nat) t v, Tryd.f5.params[j]? = some t → args[j]? = some v → Value.okWide Tryd.prog W .any base t v)
    (hA : DataW.TrodAll enc Tryd.prog W 0 (fun _ => true) true Tryd.f5.params.toList args.toList ds ps) (hL : laidMetH Tryd.prog Rows.casedataEqualRow.laid W) (hS : W.ShapedOpen Tryd.prog) : Calls Tryd.prog 5 args W (LawPost W) := by
  rw [Tryd.params5] at hA hval
  obtain ⟨v0, vs0, d0, ds0, p0, q0, hargs, rfl, rfl, h0, r0⟩ := trodAll_cons hA
  obtain ⟨v1, vs1, d1, ds1, p1, q1, rfl, rfl, rfl, h1, r1⟩ := trodAll_cons r0
  obtain ⟨rfl, rfl, rfl⟩ := trodAll_nil r1
  obtain rfl : args = #[v0, v1] := by cases args; simp_all
  obtain ⟨d, ivd, mvd, ins, mem, rfl, hid, hld, hmd⟩ := open_case (hval 0 30 v0 rfl rfl) h0
  obtain ⟨e, ive, mve, jns, nem, rfl, hie, hle, hme⟩ := open_case (hval 1 30 v1 rfl rfl) h1
  exact lawCdEqual d e _ _ _ _ ins jns mem nem W hid hld hmd hie hle hme (env19 hL).1 (env19 hL).2 (envMax19 hS)
theorem casedataEqual_met (os : Os) : laidMet Tryd.prog Rows.casedataEqualRow.laid ((laidWorld os).forCall (fun _ _ => 0) ⟨#[], #[.agg #[.int .i64 0, .slice none 0 0, .slice none 0 0], .agg #[.int .i64 0, .slice none 0 0, .slice none 0 0]], []⟩).memory :=
  laidMet_of_run' 8 (by kernel_rfl) (by kernel_rfl)
set_option maxRecDepth 100000 in
theorem casedataEqual_lifted (os : Os) (started : os.Started) (H : Type) (enc : TypeId × Value → H) (F : Stop.Interp) :
    ReturnsInHanded {} Tryd.checked os 5 .any ((OpenSpec.ofChange Rows.casedataEqualSpec).preRow enc Tryd.prog Tryd.f5 Rows.casedataEqualRow.domain false Rows.casedataEqualRow.laid) (((OpenSpec.ofChange Rows.casedataEqualSpec).at F).post enc Tryd.prog Tryd.f5 false true false false) := by
  obtain ⟨places, hx⟩ : ∃ places, DataW.whole enc Tryd.prog ((laidWorld os).forCall (fun _ _ => 0) ⟨#[], #[.agg #[.int .i64 0, .slice none 0 0, .slice none 0 0], .agg #[.int .i64 0, .slice none 0 0, .slice none 0 0]], []⟩).memory Tryd.f5.params.toList Rows.casedataEqualSpec.vars false #[.agg #[.int .i64 0, .slice none 0 0, .slice none 0 0], .agg #[.int .i64 0, .slice none 0 0, .slice none 0 0]].toList 8 = some ([.agg [.lit (.int .i64 0), .nil, .nil], .agg [.lit (.int .i64 0), .nil, .nil]], [], places) := ⟨[], by kernel_rfl⟩
  exact law_liftedS (s := Rows.casedataEqualSpec) (laid := Rows.casedataEqualRow.laid) started (by kernel_rfl) Tryd.func5 rfl (by kernel_rfl) (by intro ds hl; match ds, hl with | [_, _], _ => rfl) (by kernel_rfl)
    (witness_row_at (enc := enc) (C := Tryd.checked) false (laidWorld os) #[.agg #[.int .i64 0, .slice none 0 0, .slice none 0 0], .agg #[.int .i64 0, .slice none 0 0, .slice none 0 0]] rfl (by kernel_rfl) (by kernel_rfl) (by kernel_rfl)
      (OpenSpec.preRow_of_cond 8 hx (by kernel_rfl) (fun k hk => by cases hk) (by kernel_rfl) (casedataEqual_met os))) casedataEqual_step F
set_option maxRecDepth 100000 in
theorem casedataEqual_said : Rows.CasedataEqualSaid :=
  OpenClaim.holds_of_cond 5 Tryd.f5 rfl rfl rfl rfl rfl rfl rfl ⟨rfl, rfl, rfl, rfl, rfl⟩ rfl rfl rfl rfl rfl (by kernel_rfl) Tryd.func5 (by kernel_rfl)
    (of_decide_eq_true (by kernel_rfl)) (by unfold Func.isWrapper; first | (rw [if_pos (by decide +kernel)]; kernel_rfl) | (rw [if_neg (by decide +kernel)]; exact ⟨rfl, rfl⟩))
    (fun os started H enc _ F => by rw [OpenClaim.pre_eq_preRow]; exact casedataEqual_lifted os started H enc F)
theorem casedataEqual_holds : Rows.CasedataEqualCardSaid :=
  Claim7.holds_tied_plain_at .later [] _ _ _ _ casedataEqual_said (fun _ h => by cases h) (by kernel_rfl) (fun _ h => by cases h) casedataEqual_row_tie rfl ⟨rfl, rfl⟩ (by kernel_rfl) rfl (fun f fn hf hfn => plain_of (show Tryd.prog.funcNamed "guerdon/guerdonlaw19.CasedataEqual" = some 5 by kernel_rfl) Tryd.func5 (by kernel_rfl) (by kernel_rfl) f fn hf hfn) (by kernel_rfl)
#print axioms casedataEqual_holds
end Go.Proofs.YtemejaomfbhldaaDoor
