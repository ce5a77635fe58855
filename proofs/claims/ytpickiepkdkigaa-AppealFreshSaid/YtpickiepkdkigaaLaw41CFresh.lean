/- guerdonlaw41.AppealFresh, the given statement: for every input the law (a new appeal is valid, not upheld, and open to transitions unless it was filed too late) returns true, and each argument reads afterwards as it read before. No condition. -/
import Derived.Test.YtpickiepkdkigaaLaw41E
import Derived.Test.YtpickiepkdkigaaOpenAp
namespace Go.Proofs.Ytpickiepkdkigaa
open Go.ChangeShapes Go.WideShapes Go.ChangeAt Go.RowKit
set_option maxRecDepth 100000 in
theorem appealFresh_step {H : Type} {enc : TypeId × Value → H} (W : World) (base : Nat) (args : Array Value) (ds : List (DataW H)) (ps : List MemPlace)
    (hval : ∀ (j : Nat) t v, Try.f11.params[j]? = some t → args[j]? = some v → Value.okWide Try.prog W .any base t v)
    (hA : DataW.TrodAll enc Try.prog W 0 (fun _ => true) true Try.f11.params.toList args.toList ds ps) : Calls Try.prog 11 args W (LawPost W) := by
  rw [Try.params11] at hA hval
  obtain ⟨v0, vs0, d0, ds0, p0, q0, hargs, rfl, rfl, h0, r0⟩ := trodAll_cons hA
  obtain ⟨v1, vs1, d1, ds1, p1, q1, rfl, rfl, rfl, h1, r1⟩ := trodAll_cons r0
  obtain ⟨rfl, rfl, rfl⟩ := trodAll_nil r1
  obtain rfl : args = #[v0, v1] := by cases args; simp_all
  obtain ⟨i, f, t, da, no, rfl⟩ := open_filing (hval 0 39 v0 rfl rfl) h0
  obtain ⟨c0, c1, c2, c3, c4, c5, days, wk, A, n, c, hs, rfl, hr⟩ := open_conf (hval 1 41 v1 rfl rfl) h1
  exact lawFresh i f t da no c0 c1 c2 c3 c4 c5 days wk A n c hs W hr
set_option maxRecDepth 100000 in
theorem appealFresh_lifted (os : Os) (started : os.Started) (H : Type) (enc : TypeId × Value → H) :
    ReturnsInHanded {} Try.checked os 11 .any (Rows.appealFreshSpec.pre6 enc Try.prog Try.f11 Rows.appealFreshRow.domain false) (Rows.appealFreshSpec.post enc Try.prog Try.f11 false true false false) :=
  law_lifted (s := Rows.appealFreshSpec) started (by kernel_rfl) Try.func11 rfl (by kernel_rfl) (by intro ds hl; match ds, hl with | [_, _], _ => rfl) (by kernel_rfl)
    (ChangeSpec.witness6 (enc := enc) (C := Try.checked) false ⟨#[], #[.agg #[.int .i64 0, .int .i64 0, .int .i64 0, .int .i64 0, .int .i64 0], .agg #[.int .i64 0, .int .i64 0, .int .i64 0, .int .i64 0, .int .i64 0, .int .i64 0, .int .i64 0, .int .i64 0, .slice none 0 0]], []⟩ 8 (by kernel_rfl) (by kernel_rfl) (by kernel_rfl) (by kernel_rfl)) appealFresh_step
set_option maxRecDepth 100000 in
theorem appealFresh_holds : Rows.AppealFreshSaid :=
  OpenClaim.holds_of_wide 11 Try.f11 rfl rfl rfl rfl rfl rfl rfl ⟨rfl, rfl, rfl, rfl, rfl⟩ rfl rfl rfl rfl rfl (by kernel_rfl) Try.func11 (by kernel_rfl)
    (of_decide_eq_true (by kernel_rfl)) (by unfold Func.isWrapper; first | (rw [if_pos (by decide +kernel)]; kernel_rfl) | (rw [if_neg (by decide +kernel)]; exact ⟨rfl, rfl⟩))
    (fun os started H enc _ => appealFresh_lifted os started H enc)
#print axioms appealFresh_holds
end Go.Proofs.Ytpickiepkdkigaa
