/- What the appeals' laws take, opened. -/
import Derived.Test.YtpickiepkdkigaaOpenStruct
import Derived.Test.YtpickiepkdkigaaOpenCal
namespace Go.Proofs.Ytpickiepkdkigaa
open Go.ChangeShapes Go.WideShapes Go.ChangeAt Go.RowKit Go.Joins
variable {H : Type} {enc : TypeId × Value → H} {w : World}
theorem cellsAp : Try.prog.cellsOf 43 = 7 := by kernel_rfl
theorem cellsFiling : Try.prog.cellsOf 39 = 5 := by kernel_rfl
theorem cellsConf : Try.prog.cellsOf 41 = 9 := by kernel_rfl
theorem cellsArr : Try.prog.cellsOf 50 = 3 := by kernel_rfl
theorem open_ap {base : Nat} {v : Value} {d : DataW H} {p : List MemPlace} (hv : Value.okWide Try.prog w .any base 43 v) (h : DataW.Trod enc Try.prog w 0 (fun _ => true) true 43 v d p) :
    ∃ i f t fi de st ce : Int, v = .agg #[.int .i64 i, .int .i64 f, .int .i64 t, .int .i64 fi, .int .i64 de, .int .i64 st, .int .i64 ce] := by
  obtain ⟨⟨cs⟩, rfl, hsz⟩ := okWide_struct Try.underlying43 hv
  rw [cellsAp] at hsz
  have hr := Reads.of h
  obtain ⟨x0, e0, _⟩ := hr.intAt Try.underlying43 0 0 _ rfl rfl rfl
  obtain ⟨x1, e1, _⟩ := hr.intAt Try.underlying43 1 1 _ rfl rfl rfl
  obtain ⟨x2, e2, _⟩ := hr.intAt Try.underlying43 2 2 _ rfl rfl rfl
  obtain ⟨x3, e3, _⟩ := hr.intAt Try.underlying43 3 3 _ rfl rfl rfl
  obtain ⟨x4, e4, _⟩ := hr.intAt Try.underlying43 4 4 _ rfl rfl rfl
  obtain ⟨x5, e5, _⟩ := hr.intAt Try.underlying43 5 5 _ rfl rfl rfl
  obtain ⟨x6, e6, _⟩ := hr.intAt Try.underlying43 6 6 _ rfl rfl rfl
  match cs, hsz with
  | [c0, c1, c2, c3, c4, c5, c6], _ =>
    simp at e0 e1 e2 e3 e4 e5 e6
    subst e0 e1 e2 e3 e4 e5 e6
    exact ⟨x0, x1, x2, x3, x4, x5, x6, rfl⟩
theorem open_filing {base : Nat} {v : Value} {d : DataW H} {p : List MemPlace} (hv : Value.okWide Try.prog w .any base 39 v) (h : DataW.Trod enc Try.prog w 0 (fun _ => true) true 39 v d p) :
    ∃ i f t da no : Int, v = .agg #[.int .i64 i, .int .i64 f, .int .i64 t, .int .i64 da, .int .i64 no] := by
  obtain ⟨⟨cs⟩, rfl, hsz⟩ := okWide_struct Try.underlying39 hv
  rw [cellsFiling] at hsz
  have hr := Reads.of h
  obtain ⟨x0, e0, _⟩ := hr.intAt Try.underlying39 0 0 _ rfl rfl rfl
  obtain ⟨x1, e1, _⟩ := hr.intAt Try.underlying39 1 1 _ rfl rfl rfl
  obtain ⟨x2, e2, _⟩ := hr.intAt Try.underlying39 2 2 _ rfl rfl rfl
  obtain ⟨x3, e3, _⟩ := hr.intAt Try.underlying39 3 3 _ rfl rfl rfl
  obtain ⟨x4, e4, _⟩ := hr.intAt Try.underlying39 4 4 _ rfl rfl rfl
  match cs, hsz with
  | [c0, c1, c2, c3, c4], _ =>
    simp at e0 e1 e2 e3 e4
    subst e0 e1 e2 e3 e4
    exact ⟨x0, x1, x2, x3, x4, rfl⟩
theorem open_arr3 {base : Nat} {v : Value} {d : DataW H} {p : List MemPlace} (hv : Value.okWide Try.prog w .any base 50 v) (h : DataW.Trod enc Try.prog w 0 (fun _ => true) true 50 v d p) :
    ∃ a b c : Int, v = .agg #[.int .i64 a, .int .i64 b, .int .i64 c] := by
  obtain ⟨⟨cs⟩, rfl, hsz⟩ := okWide_arr Try.underlying50 hv
  rw [cellsArr] at hsz
  have hr := Reads.of h
  obtain ⟨x0, e0, _⟩ := hr.intElem Try.underlying50 0 (by omega)
  obtain ⟨x1, e1, _⟩ := hr.intElem Try.underlying50 1 (by omega)
  obtain ⟨x2, e2, _⟩ := hr.intElem Try.underlying50 2 (by omega)
  match cs, hsz with
  | [c0, c1, c2], _ =>
    simp at e0 e1 e2
    subst e0 e1 e2
    exact ⟨x0, x1, x2, rfl⟩
theorem open_conf {base : Nat} {v : Value} {d : DataW H} {p : List MemPlace} (hv : Value.okWide Try.prog w .any base 41 v) (h : DataW.Trod enc Try.prog w 0 (fun _ => true) true 41 v d p) :
    ∃ (c0 c1 c2 c3 c4 c5 days wk : Int) (A : Option Addr) (n c : Nat) (hs : List Int), v = .agg #[.int .i64 c0, .int .i64 c1, .int .i64 c2, .int .i64 c3, .int .i64 c4, .int .i64 c5, .int .i64 days, .int .i64 wk, .slice A n c] ∧ Ints w A n hs := by
  obtain ⟨⟨cs⟩, rfl, hsz⟩ := okWide_struct Try.underlying41 hv
  rw [cellsConf] at hsz
  have hr := Reads.of h
  obtain ⟨x0, e0, _⟩ := hr.intAt Try.underlying41 0 0 _ rfl rfl rfl
  obtain ⟨x1, e1, _⟩ := hr.intAt Try.underlying41 1 1 _ rfl rfl rfl
  obtain ⟨x2, e2, _⟩ := hr.intAt Try.underlying41 2 2 _ rfl rfl rfl
  obtain ⟨x3, e3, _⟩ := hr.intAt Try.underlying41 3 3 _ rfl rfl rfl
  obtain ⟨x4, e4, _⟩ := hr.intAt Try.underlying41 4 4 _ rfl rfl rfl
  obtain ⟨x5, e5, _⟩ := hr.intAt Try.underlying41 5 5 _ rfl rfl rfl
  obtain ⟨x6, e6, _⟩ := hr.intAt Try.underlying41 6 6 _ rfl rfl rfl
  have hc := hr.sub Try.underlying41 7 7 2 24 _ rfl rfl rfl cellsCal
  match cs, hsz with
  | [c0, c1, c2, c3, c4, c5, c6, c7, c8], _ =>
    simp at e0 e1 e2 e3 e4 e5 e6
    subst e0 e1 e2 e3 e4 e5 e6
    have hc : Reads enc w 24 [c7, c8] := hc
    obtain ⟨x7, e7, _⟩ := hc.intAt Try.underlying24 0 0 _ rfl rfl rfl
    have hcs := hc.sub Try.underlying24 1 1 1 22 _ rfl rfl rfl cellsInts
    have hcs : Reads enc w 22 [c8] := hcs
    obtain ⟨m, y, hy⟩ := hcs
    obtain ⟨A, n, c, hs, e8, hri, _⟩ := open_Ints Try.underlying22 Try.underlying3 cellInt hy
    simp at e7 e8
    subst e7 e8
    exact ⟨x0, x1, x2, x3, x4, x5, x6, x7, A, n, c, hs, rfl, hri⟩
end Go.Proofs.Ytpickiepkdkigaa
