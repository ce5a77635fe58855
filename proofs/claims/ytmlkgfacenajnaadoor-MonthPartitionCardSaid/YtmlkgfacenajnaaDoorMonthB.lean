/- What the ranges of dates answer that Overlap asks: Valid, hasDate, Intersect. -/
import Derived.Test.YtmlkgfacenajnaaDoorMonth
namespace Go.Proofs.YtmlkgfacenajnaaDoor
open Go.RowKit

def vrB (a b : Int) : Bool := decide (0 ≤ a) && (decide (a ≤ b) && decide (b ≤ 109573))
theorem vr_cases (a b : Int) : (vrB a b = false ∧ a < 0) ∨ (vrB a b = false ∧ 0 ≤ a ∧ b < a) ∨ (vrB a b = false ∧ 0 ≤ a ∧ a ≤ b ∧ 109573 < b) ∨ (vrB a b = true ∧ 0 ≤ a ∧ a ≤ b ∧ b ≤ 109573) := by
  unfold vrB
  by_cases h1 : 0 ≤ a <;> by_cases h2 : a ≤ b <;> by_cases h3 : b ≤ 109573 <;> simp [h1, h2, h3] <;> omega

set_option maxHeartbeats 1000000 in
theorem drvalid_any (a b : Int) (w : World) :
    Calls Tryd.prog 109 #[.agg #[.int .i64 a, .int .i64 b]] w fun e w' => e = .returned (.bool (vrB a b)) ∧ Kept w w' := by
  rcases vr_cases a b with ⟨h, h1⟩ | ⟨h, h1, h2⟩ | ⟨h, h1, h2, h3⟩ | ⟨h, h1, h2, h3⟩
  all_goals
    have HR := Lib.hid h
    clear h
    go_enter Tryd.func109, Tryd.ntmps109
    go_wp2_with fail
    go_ret
    exact ⟨ret_bool (by first | exact HR.out.symm | (rw [HR.out, decide_eq_true_eq]; exact h3) | (rw [HR.out, decide_eq_false_iff_not]; omega)), (Kept.refl _).alloc _⟩
set_option maxHeartbeats 1000000 in
theorem rdrvalid_any (a b : Int) (w : World) :
    Calls Tryd.prog 61 #[.agg #[.int .i64 a, .int .i64 b]] w fun e w' => e = .returned (.bool (vrB a b)) ∧ Kept w w' := by
  rcases vr_cases a b with ⟨h, h1⟩ | ⟨h, h1, h2⟩ | ⟨h, h1, h2, h3⟩ | ⟨h, h1, h2, h3⟩
  all_goals
    have HR := Lib.hid h
    clear h
    go_enter Tryd.func61, Tryd.ntmps61
    go_wp2_with fail
    go_ret
    exact ⟨ret_bool (by first | exact HR.out.symm | (rw [HR.out, decide_eq_true_eq]; exact h3) | (rw [HR.out, decide_eq_false_iff_not]; omega)), (Kept.refl _).alloc _⟩
def hdB (a b : Int) : Bool := vrB a b && decide (a < b)
set_option maxHeartbeats 1000000 in
theorem hasDate_any (a b : Int) (w : World) :
    Calls Tryd.prog 88 #[.agg #[.int .i64 a, .int .i64 b]] w fun e w' => e = .returned (.bool (hdB a b)) ∧ Kept w w' := by
  cases hv : vrB a b
  · have HR := Lib.hid (show hdB a b = false by rw [hdB, hv]; rfl)
    go_enter Tryd.func88, Tryd.ntmps88
    go_wp2_with (go_at_call 109; refine (drvalid_any _ _ _).mono ?_; rintro e w' ⟨rfl, hk⟩; rw [hv])
    go_ret
    exact ⟨ret_bool HR.out.symm, ((Kept.refl _).alloc _).trans hk⟩
  · have HR := Lib.hid (show hdB a b = decide (a < b) by rw [hdB, hv]; rfl)
    go_enter Tryd.func88, Tryd.ntmps88
    go_wp2_with (go_at_call 109; refine (drvalid_any _ _ _).mono ?_; rintro e w' ⟨rfl, hk⟩; rw [hv]; have hbox := hk.boxes1.1; have c0 := hbox 0; have c1 := hbox 1; simp only [List.getElem?_toArray, List.getElem?_cons_zero, List.getElem?_cons_succ] at c0 c1; clear hbox)
    go_ret
    exact ⟨ret_bool HR.out.symm, ((Kept.refl _).alloc _).trans hk⟩
end Go.Proofs.YtmlkgfacenajnaaDoor
