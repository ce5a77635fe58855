/- A calendar that came in, opened. -/
import Derived.Test.YtpickiepkdkigaaFrame
namespace Go.Proofs.Ytpickiepkdkigaa
open Go.ChangeShapes Go.WideShapes Go.ChangeAt Go.RowKit Go.Joins
variable {H : Type} {enc : TypeId × Value → H} {w : World}
theorem cellsCal : Try.prog.cellsOf 24 = 2 := by kernel_rfl
theorem cellsInts : Try.prog.cellsOf 22 = 1 := by kernel_rfl
theorem cellsInt : Try.prog.cellsOf 3 = 1 := by kernel_rfl
theorem open_cal {base : Nat} {v : Value} {d : DataW H} {p : List MemPlace} (hv : Value.okWide Try.prog w .any base 24 v) (h : DataW.Trod enc Try.prog w 0 (fun _ => true) true 24 v d p) :
    ∃ (wk : Int) (A : Option Addr) (n c : Nat) (hs : List Int), v = .agg #[.int .i64 wk, .slice A n c] ∧ Ints w A n hs ∧ n ≤ maxLen ∧ (Lit.int .i64 wk).wf = true := by
  obtain ⟨c0, c1, y0, y1, m, rfl, _, _, hy0, hy1⟩ := open_agg2 Try.underlying24 (by kernel_rfl) cellsCal hv h
  obtain ⟨wk, e0, _, wwk⟩ := DataW.trod_int Try.underlying3 hy0
  obtain ⟨A, n, c, hs, e1, hr, hm⟩ := open_Ints Try.underlying22 Try.underlying3 cellsInt hy1
  simp only [List.cons.injEq, and_true] at e0 e1
  subst e0 e1
  exact ⟨wk, A, n, c, hs, rfl, hr, hm, wwk⟩
theorem cellsRange : Try.prog.cellsOf 34 = 2 := by kernel_rfl
theorem open_range {base : Nat} {v : Value} {d : DataW H} {p : List MemPlace} (hv : Value.okWide Try.prog w .any base 34 v) (h : DataW.Trod enc Try.prog w 0 (fun _ => true) true 34 v d p) :
    ∃ (a b : Int), v = .agg #[.int .i64 a, .int .i64 b] ∧ (Lit.int .i64 a).wf = true ∧ (Lit.int .i64 b).wf = true := by
  obtain ⟨c0, c1, y0, y1, m, rfl, _, _, hy0, hy1⟩ := open_agg2 Try.underlying34 (by kernel_rfl) cellsRange hv h
  obtain ⟨a, e0, _, wa⟩ := DataW.trod_int Try.underlying3 hy0
  obtain ⟨b, e1, _, wb⟩ := DataW.trod_int Try.underlying3 hy1
  simp only [List.cons.injEq, and_true] at e0 e1
  subst e0 e1
  exact ⟨a, b, rfl, wa, wb⟩
end Go.Proofs.Ytpickiepkdkigaa
