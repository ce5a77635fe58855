/- guerdonlaw41.AppealFinal, the given statement: for every input the law (final states are never left, filed appeals reach a final state after at most two transitions, valid appeals stay valid) returns true, and each argument reads afterwards as it read before. No condition. -/
import Derived.Test.YtpickiepkdkigaaLaw41D
import Derived.Test.YtpickiepkdkigaaOpenAp
namespace Go.Proofs.Ytpickiepkdkigaa
open Go.ChangeShapes Go.WideShapes Go.ChangeAt Go.RowKit
set_option maxRecDepth 100000 in
theorem appealFinal_step {H : Type} {enc : TypeId × Value → H} (W : World) (base : Nat) (args : Array Value) (ds : List (DataW H)) (ps : List MemPlace)
    (hval : ∀ (j : Nat) t v, Try.f10.params[j]? = some t → args[j]? = some v → Value.okWide Try.prog W .any base t v)
    (hA : DataW.TrodAll enc Try.prog W 0 (fun _ => true) true Try.f10.params.toList args.toList ds ps) : Calls Try.prog 10 args W (LawPost W) := by
  rw [Try.params10] at hA hval
  obtain ⟨v0, vs0, d0, ds0, p0, q0, hargs, rfl, rfl, h0, r0⟩ := trodAll_cons hA
  obtain ⟨v1, vs1, d1, ds1, p1, q1, rfl, rfl, rfl, h1, r1⟩ := trodAll_cons r0
  obtain ⟨v2, vs2, d2, ds2, p2, q2, rfl, rfl, rfl, h2, r2⟩ := trodAll_cons r1
  obtain ⟨v3, vs3, d3, ds3, p3, q3, rfl, rfl, rfl, h3, r3⟩ := trodAll_cons r2
  obtain ⟨rfl, rfl, rfl⟩ := trodAll_nil r3
  obtain rfl : args = #[v0, v1, v2, v3] := by cases args; simp_all
  obtain ⟨i, f, t, fi, de, st, ce, rfl⟩ := open_ap (hval 0 43 v0 rfl rfl) h0
  obtain ⟨s1, s2, s3, rfl⟩ := open_arr3 (hval 1 50 v1 rfl rfl) h1
  obtain ⟨cc, rfl, _, _, wcc⟩ := open_int Try.underlying3 (hval 2 3 v2 rfl rfl) h2
  obtain ⟨d, rfl, _, _, wd⟩ := open_int Try.underlying3 (hval 3 3 v3 rfl rfl) h3
  exact lawFinal i f t fi de st ce s1 s2 s3 cc d W
set_option maxRecDepth 100000 in
theorem appealFinal_lifted (os : Os) (started : os.Started) (H : Type) (enc : TypeId × Value → H) :
    ReturnsInHanded {} Try.checked os 10 .any (Rows.appealFinalSpec.pre6 enc Try.prog Try.f10 Rows.appealFinalRow.domain false) (Rows.appealFinalSpec.post enc Try.prog Try.f10 false true false false) :=
  law_lifted (s := Rows.appealFinalSpec) started (by kernel_rfl) Try.func10 rfl (by kernel_rfl) (by intro ds hl; match ds, hl with | [_, _, _, _], _ => rfl) (by kernel_rfl)
    (ChangeSpec.witness6 (enc := enc) (C := Try.checked) false ⟨#[], #[.agg #[.int .i64 0, .int .i64 0, .int .i64 0, .int .i64 0, .int .i64 0, .int .i64 0, .int .i64 0], .agg #[.int .i64 0, .int .i64 0, .int .i64 0], .int .i64 0, .int .i64 0], []⟩ 8 (by kernel_rfl) (by kernel_rfl) (by kernel_rfl) (by kernel_rfl)) appealFinal_step
set_option maxRecDepth 100000 in
theorem appealFinal_holds : Rows.AppealFinalSaid :=
  OpenClaim.holds_of_wide 10 Try.f10 rfl rfl rfl rfl rfl rfl rfl ⟨rfl, rfl, rfl, rfl, rfl⟩ rfl rfl rfl rfl rfl (by kernel_rfl) Try.func10 (by kernel_rfl)
    (of_decide_eq_true (by kernel_rfl)) (by unfold Func.isWrapper; first | (rw [if_pos (by decide +kernel)]; kernel_rfl) | (rw [if_neg (by decide +kernel)]; exact ⟨rfl, rfl⟩))
    (fun os started H enc _ => appealFinal_lifted os started H enc)
#print axioms appealFinal_holds
end Go.Proofs.Ytpickiepkdkigaa
