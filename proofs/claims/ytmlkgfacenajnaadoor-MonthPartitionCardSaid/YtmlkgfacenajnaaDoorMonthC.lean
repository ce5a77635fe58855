/- What daterange.Intersect and month.Overlap compute, and the reference's Overlap. -/
import Derived.Test.YtmlkgfacenajnaaDoorMonthB
import Derived.Test.YtmlkgfacenajnaaDoorBlks
namespace Go.Proofs.YtmlkgfacenajnaaDoor
open Go.RowKit

theorem hdB_iff {a b : Int} : hdB a b = true ↔ 0 ≤ a ∧ a < b ∧ b ≤ 109573 := by
  unfold hdB vrB; simp; omega
def intS (a b c d : Int) : Int × Int × Bool := if hdB a b && (hdB c d && decide (max a c < min b d)) then (max a c, min b d, true) else (0, 0, false)
theorem int_ret {r : Int × Int × Bool} {a b : Int} {c : Bool} (h : r = (a, b, c)) : Ending.returned (.tuple #[.agg #[.int .i64 a, .int .i64 b], .bool c]) = .returned (.tuple #[.agg #[.int .i64 r.1, .int .i64 r.2.1], .bool r.2.2]) := by rw [h]

theorem mx_cases (a c : Int) : (a < c ∧ max a c = c) ∨ (c ≤ a ∧ max a c = a) := by omega
theorem mn_cases (b d : Int) : (d < b ∧ min b d = d) ∨ (b ≤ d ∧ min b d = b) := by omega
set_option maxRecDepth 100000 in
set_option maxHeartbeats 4000000 in
theorem intersect_any (a b c d : Int) (w : World) :
    Calls Tryd.prog 60 #[.agg #[.int .i64 a, .int .i64 b], .agg #[.int .i64 c, .int .i64 d]] w fun e w' => e = .returned (.tuple #[.agg #[.int .i64 (intS a b c d).1, .int .i64 (intS a b c d).2.1], .bool (intS a b c d).2.2]) ∧ Kept w w' := by
  cases h1 : hdB a b
  · have HR := Lib.hid (show intS a b c d = (0, 0, false) by rw [intS, h1]; rfl)
    go_enter Tryd.func60, Tryd.ntmps60
    go_wp2_with fail
    refine (hasDate_any _ _ _).mono ?_
    rintro e w1 ⟨rfl, k1⟩
    rw [h1]
    obtain ⟨B0, B1, B2⟩ := k1.blk3
    have b1 := B1.cell
    have b2 := B2.cell
    have l2 := B2.lt
    have f2 := B2.frozen
    go_wp2_with fail
    refine bodyPost_ret (v := .tuple #[.agg #[.int .i64 (intS a b c d).1, .int .i64 (intS a b c d).2.1], .bool (intS a b c d).2.2]) (by rw [HR.out]; simp [results, Tryd.results60, go_sem, b2]) rfl ⟨rfl, ?_⟩
    repeat refine Kept.setCell ?_ (by simp only; omega) _
    exact (((Kept.refl _).alloc _).alloc _).alloc _ |>.trans k1
  · cases h2 : hdB c d
    · have HR := Lib.hid (show intS a b c d = (0, 0, false) by rw [intS, h1, h2]; rfl)
      go_enter Tryd.func60, Tryd.ntmps60
      go_wp2_with fail
      refine (hasDate_any _ _ _).mono ?_
      rintro e w1 ⟨rfl, k1⟩
      rw [h1]
      obtain ⟨B0, B1, B2⟩ := k1.blk3
      have b1 := B1.cell
      go_wp2_with fail
      refine (hasDate_any _ _ _).mono ?_
      rintro e w2 ⟨rfl, k2⟩
      rw [h2]
      clear b1
      replace B2 := B2.kept k2
      have b2 := B2.cell
      have l2 := B2.lt
      have f2 := B2.frozen
      go_wp2_with fail
      refine bodyPost_ret (v := .tuple #[.agg #[.int .i64 (intS a b c d).1, .int .i64 (intS a b c d).2.1], .bool (intS a b c d).2.2]) (by rw [HR.out]; simp [results, Tryd.results60, go_sem, b2]) rfl ⟨rfl, ?_⟩
      repeat refine Kept.setCell ?_ (by simp only; omega) _
      exact ((((Kept.refl _).alloc _).alloc _).alloc _ |>.trans k1).trans k2
    · have HR1 : ∀ x y, max a c = x → min b d = y → x < y → intS a b c d = (x, y, true) := by
        rintro x y rfl rfl h; rw [intS, h1, h2, decide_eq_true h]; rfl
      have HR0 : ∀ x y, max a c = x → min b d = y → ¬ x < y → intS a b c d = (0, 0, false) := by
        rintro x y rfl rfl h; rw [intS, h1, h2, decide_eq_false h]; rfl
      have HH := Lib.hid h1
      have HH2 := Lib.hid h2
      clear h1 h2
      rcases mx_cases a c with ⟨e1, m1⟩ | ⟨e1, m1⟩ <;> rcases mn_cases b d with ⟨e2, m2⟩ | ⟨e2, m2⟩
      all_goals
        by_cases h3 : max a c < min b d
        · rw [m1, m2] at h3
          have HR := Lib.hid (HR1 _ _ m1 m2 h3)
          have h3' : ¬ (min b d ≤ max a c) := by omega
          rw [m1, m2] at h3'
          clear HR1 HR0 m1 m2
          go_enter Tryd.func60, Tryd.ntmps60
          go_wp2_with fail
          refine (hasDate_any _ _ _).mono ?_
          rintro e w1 ⟨rfl, k1⟩
          rw [HH.out]
          obtain ⟨B0, B1, B2⟩ := k1.blk3
          have b1 := B1.cell
          go_wp2_with fail
          refine (hasDate_any _ _ _).mono ?_
          rintro e w2 ⟨rfl, k2⟩
          rw [HH2.out]
          clear b1
          replace B0 := B0.kept k2
          replace B1 := B1.kept k2
          replace B2 := B2.kept k2
          have b0 := B0.cell
          have b1 := B1.cell
          have b2 := B2.cell
          have l0 := B0.lt
          have l1 := B1.lt
          have l2 := B2.lt
          have f2 := B2.frozen
          go_wp2_with fail
          refine bodyPost_ret (v := .tuple #[.agg #[.int .i64 (intS a b c d).1, .int .i64 (intS a b c d).2.1], .bool (intS a b c d).2.2]) (by rw [HR.out]; simp [results, Tryd.results60, go_sem, b2, l2]) rfl ⟨rfl, ?_⟩
          refine Kept.alloc ?_ _
          repeat refine Kept.setCell ?_ (by simp only; omega) _
          exact ((((Kept.refl _).alloc _).alloc _).alloc _ |>.trans k1).trans k2
        · rw [m1, m2] at h3
          have HR := Lib.hid (HR0 _ _ m1 m2 h3)
          clear HR1 HR0 m1 m2
          go_enter Tryd.func60, Tryd.ntmps60
          go_wp2_with fail
          refine (hasDate_any _ _ _).mono ?_
          rintro e w1 ⟨rfl, k1⟩
          rw [HH.out]
          obtain ⟨B0, B1, B2⟩ := k1.blk3
          have b1 := B1.cell
          go_wp2_with fail
          refine (hasDate_any _ _ _).mono ?_
          rintro e w2 ⟨rfl, k2⟩
          rw [HH2.out]
          clear b1
          replace B0 := B0.kept k2
          replace B1 := B1.kept k2
          replace B2 := B2.kept k2
          have b0 := B0.cell
          have b1 := B1.cell
          have b2 := B2.cell
          have l0 := B0.lt
          have l1 := B1.lt
          have l2 := B2.lt
          have f2 := B2.frozen
          go_wp2_with fail
          refine bodyPost_ret (v := .tuple #[.agg #[.int .i64 (intS a b c d).1, .int .i64 (intS a b c d).2.1], .bool (intS a b c d).2.2]) (by rw [HR.out]; simp [results, Tryd.results60, go_sem, b2, l2]) rfl ⟨rfl, ?_⟩
          refine Kept.alloc ?_ _
          repeat refine Kept.setCell ?_ (by simp only; omega) _
          exact ((((Kept.refl _).alloc _).alloc _).alloc _ |>.trans k1).trans k2
end Go.Proofs.YtmlkgfacenajnaaDoor
