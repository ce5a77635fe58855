/- guerdonlaw41.AppealFiles, the given statement: for every input the law (File agrees with the reference) returns true, and each argument reads afterwards as it read before. No condition. -/
import Derived.Test.YtpickiepkdkigaaLaw41B
import Derived.Test.YtpickiepkdkigaaOpenAp
namespace Go.Proofs.Ytpickiepkdkigaa
open Go.ChangeShapes Go.WideShapes Go.ChangeAt Go.RowKit
set_option maxRecDepth 100000 in
theorem appealFiles_step {H : Type} {enc : TypeId × Value → H} (W : World) (base : Nat) (args : Array Value) (ds : List (DataW H)) (ps : List MemPlace)
    (hval : ∀ (j : Nat) t v, Try.f8.params[j]? = some t → args[j]? = some v → Value.okWide Try.prog W .any base t v)
    (hA : DataW.TrodAll enc Try.prog W 0 (fun _ => true) true Try.f8.params.toList args.toList ds ps) : Calls Try.prog 8 args W (LawPost W) := by
  rw [Try.params8] at hA hval
  obtain ⟨v0, vs0, d0, ds0, p0, q0, hargs, rfl, rfl, h0, r0⟩ := trodAll_cons hA
  obtain ⟨v1, vs1, d1, ds1, p1, q1, rfl, rfl, rfl, h1, r1⟩ := trodAll_cons r0
  obtain ⟨rfl, rfl, rfl⟩ := trodAll_nil r1
  obtain rfl : args = #[v0, v1] := by cases args; simp_all
  obtain ⟨i, f, t, da, no, rfl⟩ := open_filing (hval 0 39 v0 rfl rfl) h0
  obtain ⟨c0, c1, c2, c3, c4, c5, days, wk, A, n, c, hs, rfl, hr⟩ := open_conf (hval 1 41 v1 rfl rfl) h1
  exact lawFiles i f t da no c0 c1 c2 c3 c4 c5 days wk A n c hs W hr
set_option maxRecDepth 100000 in
theorem appealFiles_lifted (os : Os) (started : os.Started) (H : Type) (enc : TypeId × Value → H) :
    ReturnsInHanded {} Try.checked os 8 .any (Rows.appealFilesSpec.pre6 enc Try.prog Try.f8 Rows.appealFilesRow.domain false) (Rows.appealFilesSpec.post enc Try.prog Try.f8 false true false false) :=
  law_lifted (s := Rows.appealFilesSpec) started (by kernel_rfl) Try.func8 rfl (by kernel_rfl) (by intro ds hl; match ds, hl with | [_, _], _ => rfl) (by kernel_rfl)
    (ChangeSpec.witness6 (enc := enc) (C := Try.checked) false ⟨#[], #[.agg #[.int .i64 0, .int .i64 0, .int .i64 0, .int .i64 0, .int .i64 0], .agg #[.int .i64 0, .int .i64 0, .int .i64 0, .int .i64 0, .int .i64 0, .int .i64 0, .int .i64 0, .int .i64 0, .slice none 0 0]], []⟩ 8 (by kernel_rfl) (by kernel_rfl) (by kernel_rfl) (by kernel_rfl)) appealFiles_step
set_option maxRecDepth 100000 in
theorem appealFiles_holds : Rows.AppealFilesSaid :=
  OpenClaim.holds_of_wide 8 Try.f8 rfl rfl rfl rfl rfl rfl rfl ⟨rfl, rfl, rfl, rfl, rfl⟩ rfl rfl rfl rfl rfl (by kernel_rfl) Try.func8 (by kernel_rfl)
    (of_decide_eq_true (by kernel_rfl)) (by unfold Func.isWrapper; first | (rw [if_pos (by decide +kernel)]; kernel_rfl) | (rw [if_neg (by decide +kernel)]; exact ⟨rfl, rfl⟩))
    (fun os started H enc _ => appealFiles_lifted os started H enc)
#print axioms appealFiles_holds
end Go.Proofs.Ytpickiepkdkigaa
