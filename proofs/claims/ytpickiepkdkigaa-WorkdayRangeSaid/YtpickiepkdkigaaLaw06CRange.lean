/- guerdonlaw06.WorkdayRange, the given statement: for every input the law (Count agrees with the reference) returns true, and each argument reads afterwards as it read before. No condition. -/
import Derived.Test.YtpickiepkdkigaaLaw06B
import Derived.Test.YtpickiepkdkigaaOpenCal
namespace Go.Proofs.Ytpickiepkdkigaa
open Go.ChangeShapes Go.WideShapes Go.ChangeAt Go.RowKit
set_option maxRecDepth 100000 in
theorem workdayRange_step {H : Type} {enc : TypeId × Value → H} (W : World) (base : Nat) (args : Array Value) (ds : List (DataW H)) (ps : List MemPlace)
    (hval : ∀ (j : Nat) t v, Try.f5.params[j]? = some t → args[j]? = some v → Value.okWide Try.prog W .any base t v)
    (hA : DataW.TrodAll enc Try.prog W 0 (fun _ => true) true Try.f5.params.toList args.toList ds ps) : Calls Try.prog 5 args W (LawPost W) := by
  rw [Try.params5] at hA hval
  obtain ⟨v0, vs0, d0, ds0, p0, q0, hargs, rfl, rfl, h0, r0⟩ := trodAll_cons hA
  obtain ⟨v1, vs1, d1, ds1, p1, q1, rfl, rfl, rfl, h1, r1⟩ := trodAll_cons r0
  obtain ⟨rfl, rfl, rfl⟩ := trodAll_nil r1
  obtain rfl : args = #[v0, v1] := by cases args; simp_all
  obtain ⟨wk, A, n, c, hs, rfl, hr, _, _⟩ := open_cal (hval 0 24 v0 rfl rfl) h0
  obtain ⟨a, b, rfl, wa, wb⟩ := open_range (hval 1 34 v1 rfl rfl) h1
  exact lawRange wk A n c hs W hr a b
set_option maxRecDepth 100000 in
theorem workdayRange_lifted (os : Os) (started : os.Started) (H : Type) (enc : TypeId × Value → H) :
    ReturnsInHanded {} Try.checked os 5 .any (Rows.workdayRangeSpec.pre6 enc Try.prog Try.f5 Rows.workdayRangeRow.domain false) (Rows.workdayRangeSpec.post enc Try.prog Try.f5 false true false false) :=
  law_lifted (s := Rows.workdayRangeSpec) started (by kernel_rfl) Try.func5 rfl (by kernel_rfl) (by intro ds hl; match ds, hl with | [_, _], _ => rfl) (by kernel_rfl)
    (ChangeSpec.witness6 (enc := enc) (C := Try.checked) false ⟨#[], #[.agg #[.int .i64 0, .slice none 0 0], .agg #[.int .i64 0, .int .i64 0]], []⟩ 8 (by kernel_rfl) (by kernel_rfl) (by kernel_rfl) (by kernel_rfl)) workdayRange_step
set_option maxRecDepth 100000 in
theorem workdayRange_holds : Rows.WorkdayRangeSaid :=
  OpenClaim.holds_of_wide 5 Try.f5 rfl rfl rfl rfl rfl rfl rfl ⟨rfl, rfl, rfl, rfl, rfl⟩ rfl rfl rfl rfl rfl (by kernel_rfl) Try.func5 (by kernel_rfl)
    (of_decide_eq_true (by kernel_rfl)) (by unfold Func.isWrapper; first | (rw [if_pos (by decide +kernel)]; kernel_rfl) | (rw [if_neg (by decide +kernel)]; exact ⟨rfl, rfl⟩))
    (fun os started H enc _ => workdayRange_lifted os started H enc)
#print axioms workdayRange_holds
end Go.Proofs.Ytpickiepkdkigaa
