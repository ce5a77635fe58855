/- A calendar that came in, opened. -/
import Derived.Test.YtmlkgfacenajnaaDoorFrame
namespace Go.Proofs.YtmlkgfacenajnaaDoor
open Go.ChangeShapes Go.WideShapes Go.ChangeAt Go.RowKit Go.Joins
variable {H : Type} {enc : TypeId × Value → H} {w : World}
theorem cellsCal : Tryd.prog.cellsOf 43 = 2 := by kernel_rfl
theorem cellsInts : Tryd.prog.cellsOf 41 = 1 := by kernel_rfl
theorem cellsInt : Tryd.prog.cellsOf 3 = 1 := by kernel_rfl
set_option maxRecDepth 100000 in
theorem open_cal {base : Nat} {v : Value} {d : DataW H} {p : List MemPlace} (hv : Value.okWide Tryd.prog w .any base 43 v) (h : DataW.Trod enc Tryd.prog w 0 (fun _ => true) true 43 v d p) :
    ∃ (wk : Int) (A : Option Addr) (n c : Nat) (hs : List Int), v = .agg #[.int .i64 wk, .slice A n c] ∧ Ints w A n hs ∧ n ≤ maxLen ∧ (Lit.int .i64 wk).wf = true := by
  obtain ⟨c0, c1, y0, y1, m, rfl, _, _, hy0, hy1⟩ := open_agg2 Tryd.underlying43 (by kernel_rfl) cellsCal hv h
  obtain ⟨wk, e0, _, wwk⟩ := DataW.trod_int Tryd.underlying3 hy0
  obtain ⟨A, n, c, hs, e1, hr, hm⟩ := open_Ints Tryd.underlying41 Tryd.underlying3 cellsInt hy1
  simp only [List.cons.injEq, and_true] at e0 e1
  subst e0 e1
  exact ⟨wk, A, n, c, hs, rfl, hr, hm, wwk⟩
theorem cellsRange : Tryd.prog.cellsOf 35 = 2 := by kernel_rfl
set_option maxRecDepth 100000 in
theorem open_range {base : Nat} {v : Value} {d : DataW H} {p : List MemPlace} (hv : Value.okWide Tryd.prog w .any base 35 v) (h : DataW.Trod enc Tryd.prog w 0 (fun _ => true) true 35 v d p) :
    ∃ (a b : Int), v = .agg #[.int .i64 a, .int .i64 b] ∧ (Lit.int .i64 a).wf = true ∧ (Lit.int .i64 b).wf = true := by
  obtain ⟨c0, c1, y0, y1, m, rfl, _, _, hy0, hy1⟩ := open_agg2 Tryd.underlying35 (by kernel_rfl) cellsRange hv h
  obtain ⟨a, e0, _, wa⟩ := DataW.trod_int Tryd.underlying3 hy0
  obtain ⟨b, e1, _, wb⟩ := DataW.trod_int Tryd.underlying3 hy1
  simp only [List.cons.injEq, and_true] at e0 e1
  subst e0 e1
  exact ⟨a, b, rfl, wa, wb⟩
end Go.Proofs.YtmlkgfacenajnaaDoor
