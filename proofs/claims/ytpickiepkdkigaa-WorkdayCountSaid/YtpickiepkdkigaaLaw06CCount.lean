/- guerdonlaw06.WorkdayCount, the given statement: for every input the law (the span that ends with the n-th working day holds n working days) returns true, and each argument reads afterwards as it read before. No condition. -/
import Derived.Test.YtpickiepkdkigaaLaw06B
import Derived.Test.YtpickiepkdkigaaOpenCal
namespace Go.Proofs.Ytpickiepkdkigaa
open Go.ChangeShapes Go.WideShapes Go.ChangeAt Go.RowKit
set_option maxRecDepth 100000 in
theorem workdayCount_step {H : Type} {enc : TypeId × Value → H} (W : World) (base : Nat) (args : Array Value) (ds : List (DataW H)) (ps : List MemPlace)
    (hval : ∀ (j : Nat) t v, Try.f6.params[j]? = some t → args[j]? = some v → Value.okWide Try.prog W .any base t v)
    (hA : DataW.TrodAll enc Try.prog W 0 (fun _ => true) true Try.f6.params.toList args.toList ds ps) : Calls Try.prog 6 args W (LawPost W) := by
  rw [Try.params6] at hA hval
  obtain ⟨v0, vs0, d0, ds0, p0, q0, hargs, rfl, rfl, h0, r0⟩ := trodAll_cons hA
  obtain ⟨v1, vs1, d1, ds1, p1, q1, rfl, rfl, rfl, h1, r1⟩ := trodAll_cons r0
  obtain ⟨v2, vs2, d2, ds2, p2, q2, rfl, rfl, rfl, h2, r2⟩ := trodAll_cons r1
  obtain ⟨rfl, rfl, rfl⟩ := trodAll_nil r2
  obtain rfl : args = #[v0, v1, v2] := by cases args; simp_all
  obtain ⟨wk, A, n, c, hs, rfl, hr, _, _⟩ := open_cal (hval 0 24 v0 rfl rfl) h0
  obtain ⟨d, rfl, _, _, wd⟩ := open_int Try.underlying3 (hval 1 3 v1 rfl rfl) h1
  obtain ⟨j, rfl, _, _, wj⟩ := open_int Try.underlying3 (hval 2 3 v2 rfl rfl) h2
  exact lawCount wk A n c hs W hr d j
set_option maxRecDepth 100000 in
theorem workdayCount_lifted (os : Os) (started : os.Started) (H : Type) (enc : TypeId × Value → H) :
    ReturnsInHanded {} Try.checked os 6 .any (Rows.workdayCountSpec.pre6 enc Try.prog Try.f6 Rows.workdayCountRow.domain false) (Rows.workdayCountSpec.post enc Try.prog Try.f6 false true false false) :=
  law_lifted (s := Rows.workdayCountSpec) started (by kernel_rfl) Try.func6 rfl (by kernel_rfl) (by intro ds hl; match ds, hl with | [_, _, _], _ => rfl) (by kernel_rfl)
    (ChangeSpec.witness6 (enc := enc) (C := Try.checked) false ⟨#[], #[.agg #[.int .i64 0, .slice none 0 0], .int .i64 0, .int .i64 0], []⟩ 8 (by kernel_rfl) (by kernel_rfl) (by kernel_rfl) (by kernel_rfl)) workdayCount_step
set_option maxRecDepth 100000 in
theorem workdayCount_holds : Rows.WorkdayCountSaid :=
  OpenClaim.holds_of_wide 6 Try.f6 rfl rfl rfl rfl rfl rfl rfl ⟨rfl, rfl, rfl, rfl, rfl⟩ rfl rfl rfl rfl rfl (by kernel_rfl) Try.func6 (by kernel_rfl)
    (of_decide_eq_true (by kernel_rfl)) (by unfold Func.isWrapper; first | (rw [if_pos (by decide +kernel)]; kernel_rfl) | (rw [if_neg (by decide +kernel)]; exact ⟨rfl, rfl⟩))
    (fun os started H enc _ => workdayCount_lifted os started H enc)
#print axioms workdayCount_holds
end Go.Proofs.Ytpickiepkdkigaa
