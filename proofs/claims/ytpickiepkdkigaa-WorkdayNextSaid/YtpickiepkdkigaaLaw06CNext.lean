/- guerdonlaw06.WorkdayNext, the given statement: for every input the law (Valid, IsWorkday and Next agree with the reference) returns true, and each argument reads afterwards as it read before. No condition. -/
import Derived.Test.YtpickiepkdkigaaLaw06B
import Derived.Test.YtpickiepkdkigaaOpenCal
namespace Go.Proofs.Ytpickiepkdkigaa
open Go.ChangeShapes Go.WideShapes Go.ChangeAt Go.RowKit
set_option maxRecDepth 100000 in
theorem workdayNext_step {H : Type} {enc : TypeId × Value → H} (W : World) (base : Nat) (args : Array Value) (ds : List (DataW H)) (ps : List MemPlace)
    (hval : ∀ (j : Nat) t v, Try.f3.params[j]? = some t → args[j]? = some v → Value.okWide Try.prog W .any base t v)
    (hA : DataW.TrodAll enc Try.prog W 0 (fun _ => true) true Try.f3.params.toList args.toList ds ps) : Calls Try.prog 3 args W (LawPost W) := by
  rw [Try.params3] at hA hval
  obtain ⟨v0, vs0, d0, ds0, p0, q0, hargs, rfl, rfl, h0, r0⟩ := trodAll_cons hA
  obtain ⟨v1, vs1, d1, ds1, p1, q1, rfl, rfl, rfl, h1, r1⟩ := trodAll_cons r0
  obtain ⟨rfl, rfl, rfl⟩ := trodAll_nil r1
  obtain rfl : args = #[v0, v1] := by cases args; simp_all
  obtain ⟨wk, A, n, c, hs, rfl, hr, _, _⟩ := open_cal (hval 0 24 v0 rfl rfl) h0
  obtain ⟨d, rfl, _, _, wd⟩ := open_int Try.underlying3 (hval 1 3 v1 rfl rfl) h1
  exact lawNext wk A n c hs W hr d
set_option maxRecDepth 100000 in
theorem workdayNext_lifted (os : Os) (started : os.Started) (H : Type) (enc : TypeId × Value → H) :
    ReturnsInHanded {} Try.checked os 3 .any (Rows.workdayNextSpec.pre6 enc Try.prog Try.f3 Rows.workdayNextRow.domain false) (Rows.workdayNextSpec.post enc Try.prog Try.f3 false true false false) :=
  law_lifted (s := Rows.workdayNextSpec) started (by kernel_rfl) Try.func3 rfl (by kernel_rfl) (by intro ds hl; match ds, hl with | [_, _], _ => rfl) (by kernel_rfl)
    (ChangeSpec.witness6 (enc := enc) (C := Try.checked) false ⟨#[], #[.agg #[.int .i64 0, .slice none 0 0], .int .i64 0], []⟩ 8 (by kernel_rfl) (by kernel_rfl) (by kernel_rfl) (by kernel_rfl)) workdayNext_step
set_option maxRecDepth 100000 in
theorem workdayNext_holds : Rows.WorkdayNextSaid :=
  OpenClaim.holds_of_wide 3 Try.f3 rfl rfl rfl rfl rfl rfl rfl ⟨rfl, rfl, rfl, rfl, rfl⟩ rfl rfl rfl rfl rfl (by kernel_rfl) Try.func3 (by kernel_rfl)
    (of_decide_eq_true (by kernel_rfl)) (by unfold Func.isWrapper; first | (rw [if_pos (by decide +kernel)]; kernel_rfl) | (rw [if_neg (by decide +kernel)]; exact ⟨rfl, rfl⟩))
    (fun os started H enc _ => workdayNext_lifted os started H enc)
#print axioms workdayNext_holds
end Go.Proofs.Ytpickiepkdkigaa
