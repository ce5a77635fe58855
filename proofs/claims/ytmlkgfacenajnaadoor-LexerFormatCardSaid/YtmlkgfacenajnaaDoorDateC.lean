/- What date.Weekday, AddMonths and YearsBetween compute. -/
import Derived.Test.YtmlkgfacenajnaaDoorDateB
namespace Go.Proofs.YtmlkgfacenajnaaDoor
open Go.RowKit

def wdS (d : Int) : Int := if isDate d then d % 7 else -1
set_option maxHeartbeats 400000 in
theorem weekday_any (d : Int) (w : World) :
    Calls Tryd.prog 110 #[.int .i64 d] w fun e w' => e = .returned (.int .i64 (wdS d)) ∧ w = w' := by
  cases hd : isDate d
  · have HR := Lib.hid (show wdS d = -1 by rw [wdS, hd]; rfl)
    go_enter Tryd.func110, Tryd.ntmps110
    go_wp2_with (go_at_call 84; refine (dvalid_any _ _).mono ?_; rintro e w' ⟨rfl, rfl⟩)
    go_ret
    exact ⟨ret_int (by rw [HR.out]), rfl⟩
  · have HR := Lib.hid (show wdS d = d % 7 by rw [wdS, hd]; rfl)
    have hdd := isDate_iff.1 hd
    have n0 := hdd.1
    have n1 := hdd.2
    clear hdd
    go_enter Tryd.func110, Tryd.ntmps110
    go_wp2_with (go_at_call 84; refine (dvalid_any _ _).mono ?_; rintro e w' ⟨rfl, rfl⟩)
    go_ret
    exact ⟨ret_int (by rw [HR.out]), rfl⟩

theorem addOk_not {a n : Int} (h : addOk a n = false) : isDate a = false ∨ (isDate a = true ∧ n < -3600) ∨ (isDate a = true ∧ -3600 ≤ n ∧ 3600 < n) ∨
    (isDate a = true ∧ -3600 ≤ n ∧ n ≤ 3600 ∧ monS a n < 0) ∨ (isDate a = true ∧ -3600 ≤ n ∧ n ≤ 3600 ∧ 0 ≤ monS a n ∧ 3599 < monS a n) := by
  cases hd : isDate a
  · exact .inl rfl
  · have h' : ¬ (isDate a = true ∧ -3600 ≤ n ∧ n ≤ 3600 ∧ 0 ≤ monS a n ∧ monS a n ≤ 3599) := by rw [← addOk_iff, h]; simp
    simp only [hd, true_and] at h'
    simp only [true_and]
    simp only [show (true = false) = False from by simp]
    omega
theorem ybIn_not {a b : Int} (h : ybIn a b = false) : isDate a = false ∨ (isDate a = true ∧ isDate b = false) ∨ (isDate a = true ∧ isDate b = true ∧ b < a) := by
  unfold ybIn at h
  cases ha : isDate a
  · exact .inl rfl
  · cases hb : isDate b
    · exact .inr (.inl ⟨rfl, rfl⟩)
    · refine .inr (.inr ⟨rfl, rfl, ?_⟩)
      rw [ha, hb] at h
      simpa using h
end Go.Proofs.YtmlkgfacenajnaaDoor
