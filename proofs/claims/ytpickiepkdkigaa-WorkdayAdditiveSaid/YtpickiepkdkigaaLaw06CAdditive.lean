/- guerdonlaw06.WorkdayAdditive, the given statement: for every input the law (counts of adjacent spans add up, and Next of a working day is that day) returns true, and each argument reads afterwards as it read before. No condition. -/
import Derived.Test.YtpickiepkdkigaaLaw06B
import Derived.Test.YtpickiepkdkigaaOpenCal
namespace Go.Proofs.Ytpickiepkdkigaa
open Go.ChangeShapes Go.WideShapes Go.ChangeAt Go.RowKit
set_option maxRecDepth 100000 in
theorem workdayAdditive_step {H : Type} {enc : TypeId × Value → H} (W : World) (base : Nat) (args : Array Value) (ds : List (DataW H)) (ps : List MemPlace)
    (hval : ∀ (j : Nat) t v, Try.f7.params[j]? = some t → args[j]? = some v → Value.okWide Try.prog W .any base t v)
    (hA : DataW.TrodAll enc Try.prog W 0 (fun _ => true) true Try.f7.params.toList args.toList ds ps) : Calls Try.prog 7 args W (LawPost W) := by
  rw [Try.params7] at hA hval
  obtain ⟨v0, vs0, d0, ds0, p0, q0, hargs, rfl, rfl, h0, r0⟩ := trodAll_cons hA
  obtain ⟨v1, vs1, d1, ds1, p1, q1, rfl, rfl, rfl, h1, r1⟩ := trodAll_cons r0
  obtain ⟨v2, vs2, d2, ds2, p2, q2, rfl, rfl, rfl, h2, r2⟩ := trodAll_cons r1
  obtain ⟨v3, vs3, d3, ds3, p3, q3, rfl, rfl, rfl, h3, r3⟩ := trodAll_cons r2
  obtain ⟨rfl, rfl, rfl⟩ := trodAll_nil r3
  obtain rfl : args = #[v0, v1, v2, v3] := by cases args; simp_all
  obtain ⟨wk, A, n, c, hs, rfl, hr, _, _⟩ := open_cal (hval 0 24 v0 rfl rfl) h0
  obtain ⟨a, rfl, _, _, wa⟩ := open_int Try.underlying3 (hval 1 3 v1 rfl rfl) h1
  obtain ⟨b, rfl, _, _, wb⟩ := open_int Try.underlying3 (hval 2 3 v2 rfl rfl) h2
  obtain ⟨d, rfl, _, _, wd⟩ := open_int Try.underlying3 (hval 3 3 v3 rfl rfl) h3
  exact lawAdditive wk A n c hs W hr a b d
set_option maxRecDepth 100000 in
theorem workdayAdditive_lifted (os : Os) (started : os.Started) (H : Type) (enc : TypeId × Value → H) :
    ReturnsInHanded {} Try.checked os 7 .any (Rows.workdayAdditiveSpec.pre6 enc Try.prog Try.f7 Rows.workdayAdditiveRow.domain false) (Rows.workdayAdditiveSpec.post enc Try.prog Try.f7 false true false false) :=
  law_lifted (s := Rows.workdayAdditiveSpec) started (by kernel_rfl) Try.func7 rfl (by kernel_rfl) (by intro ds hl; match ds, hl with | [_, _, _, _], _ => rfl) (by kernel_rfl)
    (ChangeSpec.witness6 (enc := enc) (C := Try.checked) false ⟨#[], #[.agg #[.int .i64 0, .slice none 0 0], .int .i64 0, .int .i64 0, .int .i64 0], []⟩ 8 (by kernel_rfl) (by kernel_rfl) (by kernel_rfl) (by kernel_rfl)) workdayAdditive_step
set_option maxRecDepth 100000 in
theorem workdayAdditive_holds : Rows.WorkdayAdditiveSaid :=
  OpenClaim.holds_of_wide 7 Try.f7 rfl rfl rfl rfl rfl rfl rfl ⟨rfl, rfl, rfl, rfl, rfl⟩ rfl rfl rfl rfl rfl (by kernel_rfl) Try.func7 (by kernel_rfl)
    (of_decide_eq_true (by kernel_rfl)) (by unfold Func.isWrapper; first | (rw [if_pos (by decide +kernel)]; kernel_rfl) | (rw [if_neg (by decide +kernel)]; exact ⟨rfl, rfl⟩))
    (fun os started H enc _ => workdayAdditive_lifted os started H enc)
#print axioms workdayAdditive_holds
end Go.Proofs.Ytpickiepkdkigaa
