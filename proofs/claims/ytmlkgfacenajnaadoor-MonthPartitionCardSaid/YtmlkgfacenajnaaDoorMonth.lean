/- What FromDate, Range and Days of package month, and of the reference, compute. -/
import Derived.Test.YtmlkgfacenajnaaDoorMonthMath
import Derived.Test.YtmlkgfacenajnaaDoorDateC
import Derived.Test.YtmlkgfacenajnaaDoorRefDateB
namespace Go.Proofs.YtmlkgfacenajnaaDoor
open Go.RowKit

/-- the range of a month, and the code -/
def rgS (m : Int) : Int × Int × Int := if monB m then (firstM m, firstM m + daysM m, 0) else (0, 0, 3)
theorem rgS_yes {m : Int} (h : monB m = true) : rgS m = (firstM m, firstM m + daysM m, 0) := by rw [rgS, if_pos h]
theorem rgS_no {m : Int} (h : monB m = false) : rgS m = (0, 0, 3) := by rw [rgS, h]; rfl
theorem rg_ret {r : Int × Int × Int} {a b c : Int} (h : r = (a, b, c)) : Ending.returned (.tuple #[.agg #[.int .i64 a, .int .i64 b], .int .i64 c]) = .returned (.tuple #[.agg #[.int .i64 r.1, .int .i64 r.2.1], .int .i64 r.2.2]) := by rw [h]

theorem mvalid_any (m : Int) (w : World) :
    Calls Tryd.prog 52 #[.int .i64 m] w fun e w' => e = .returned (.bool (monB m)) ∧ w = w' := by
  by_cases h : 0 ≤ m
  · go_enter Tryd.func52, Tryd.ntmps52
    go_wp2_with fail
    go_ret
    exact ⟨ret_bool (by simp [monB, h]), rfl⟩
  · go_enter Tryd.func52, Tryd.ntmps52
    go_wp2_with fail
    go_ret
    exact ⟨ret_bool (by simp [monB]; omega), rfl⟩
theorem rmvalid_any (m : Int) (w : World) :
    Calls Tryd.prog 54 #[.int .i64 m] w fun e w' => e = .returned (.bool (monB m)) ∧ w = w' := by
  by_cases h : 0 ≤ m
  · go_enter Tryd.func54, Tryd.ntmps54
    go_wp2_with fail
    go_ret
    exact ⟨ret_bool (by simp [monB, h]), rfl⟩
  · go_enter Tryd.func54, Tryd.ntmps54
    go_wp2_with fail
    go_ret
    exact ⟨ret_bool (by simp [monB]; omega), rfl⟩

set_option maxHeartbeats 1000000 in
theorem mfromDate_any (d : Int) (w : World) (hM : Mon w) :
    Calls Tryd.prog 24 #[.int .i64 d] w fun e w' => e = .returned (.int .i64 (fromD d)) ∧ w = w' := by
  cases hd : isDate d
  · have HR := Lib.hid (fromD_no hd)
    have hr : d < 0 ∨ (0 ≤ d ∧ 109572 < d) := by have := isDate_not.1 hd; omega
    clear hd
    rcases hr with h | ⟨h, h'⟩
    all_goals
      go_enter Tryd.func24, Tryd.ntmps24
      go_wp2_with fail
      go_ret
      exact ⟨ret_int HR.out.symm, rfl⟩
  · obtain ⟨d0, d1⟩ := isDate_iff.1 hd
    have hb := toS_bd hd
    have HR := Lib.hid (fromD_yes hd)
    clear hd
    generalize ht : toS d = t at *
    obtain ⟨y, m, x⟩ := t
    dsimp only at *
    obtain ⟨b1, b2, b3, b4, b5, b6⟩ := hb
    go_enter Tryd.func24, Tryd.ntmps24
    go_wp2_with (go_at_call 56; refine (toYMD_any _ _ hM).mono ?_; rintro e w' ⟨rfl, rfl⟩; rw [ht]; dsimp only)
    go_ret
    exact ⟨ret_int HR.out.symm, rfl⟩

set_option maxHeartbeats 1000000 in
theorem mdays_any (m : Int) (w : World) (hM : Mon w) :
    Calls Tryd.prog 26 #[.int .i64 m] w fun e w' => e = .returned (.int .i64 (daysM m)) ∧ w = w' := by
  cases hm : monB m
  · have HR := Lib.hid (daysM_no hm)
    go_enter Tryd.func26, Tryd.ntmps26
    go_wp2_with (go_at_call 52; refine (mvalid_any _ _).mono ?_; rintro e w' ⟨rfl, rfl⟩; rw [hm])
    go_ret
    exact ⟨ret_int HR.out.symm, rfl⟩
  · have HR := Lib.hid (daysM_yes hm)
    obtain ⟨m0, m1⟩ := monB_iff.1 hm
    go_enter Tryd.func26, Tryd.ntmps26
    go_wp2_with (first
      | (go_at_call 52; refine (mvalid_any _ _).mono ?_; rintro e w' ⟨rfl, rfl⟩; rw [hm])
      | (go_at_call 58; refine (dim_any (mY m) (mM m) _ hM).mono ?_; rintro e w' ⟨rfl, rfl⟩))
    go_ret
    exact ⟨ret_int HR.out.symm, rfl⟩

set_option maxRecDepth 100000 in
set_option maxHeartbeats 1000000 in
theorem mrange_any (m : Int) (w : World) (hM : Mon w) :
    Calls Tryd.prog 22 #[.int .i64 m] w fun e w' => e = .returned (.tuple #[.agg #[.int .i64 (rgS m).1, .int .i64 (rgS m).2.1], .int .i64 (rgS m).2.2]) ∧ Kept w w' := by
  cases hm : monB m
  · have HR := Lib.hid (rgS_no hm)
    go_enter Tryd.func22, Tryd.ntmps22
    go_wp2_with (go_at_call 52; refine (mvalid_any _ _).mono ?_; rintro e w' ⟨rfl, rfl⟩; rw [hm])
    refine bodyPost_ret (v := .tuple #[.agg #[.int .i64 0, .int .i64 0], .int .i64 3]) (by simp [results, Tryd.results22, go_sem]) rfl ⟨rg_ret HR.out, ?_⟩
    exact (Kept.refl _).alloc _
  · have HR := Lib.hid (rgS_yes hm)
    obtain ⟨m0, m1⟩ := monB_iff.1 hm
    have hf := from_first hm
    have hfb := firstM_bd hm
    have hdb := daysM_bd hm
    have hME := Mon.kept hM ((Kept.refl w).alloc (.cells #[.int .i64 0, .int .i64 0] 35))
    go_enter Tryd.func22, Tryd.ntmps22
    go_wp2_with (first
      | (go_at_call 52; refine (mvalid_any _ _).mono ?_; rintro e w' ⟨rfl, rfl⟩; rw [hm])
      | (go_at_call 53; refine (fromYMD_any (mY m) (mM m) 1 _ hME).mono ?_; rintro e w' ⟨rfl, rfl⟩; rw [hf]; dsimp only)
      | (go_at_call 26; refine (mdays_any m _ hME).mono ?_; rintro e w' ⟨rfl, rfl⟩))
    refine bodyPost_ret (v := .tuple #[.agg #[.int .i64 (firstM m), .int .i64 (firstM m + daysM m)], .int .i64 0]) (by simp [results, Tryd.results22, go_sem]) rfl ⟨rg_ret HR.out, ?_⟩
    exact (Kept.refl _).alloc _

set_option maxHeartbeats 1000000 in
theorem rmfromDate_any (d : Int) (w : World) :
    Calls Tryd.prog 25 #[.int .i64 d] w fun e w' => e = .returned (.int .i64 (fromD d)) ∧ w = w' := by
  cases hd : isDate d
  · have HR := Lib.hid (fromD_no hd)
    have ht := toS_no (isDate_not.1 hd)
    clear hd
    go_enter Tryd.func25, Tryd.ntmps25
    go_wp2_with (go_at_call 57; refine (rtoYMD_any _ _).mono ?_; rintro e w' ⟨rfl, rfl⟩; rw [ht]; dsimp only)
    go_ret
    exact ⟨ret_int HR.out.symm, rfl⟩
  · obtain ⟨d0, d1⟩ := isDate_iff.1 hd
    have hb := toS_bd hd
    have HR := Lib.hid (fromD_yes hd)
    clear hd
    generalize ht : toS d = t at *
    obtain ⟨y, m, x⟩ := t
    dsimp only at *
    obtain ⟨b1, b2, b3, b4, b5, b6⟩ := hb
    have hm0 : m ≠ 0 := by omega
    go_enter Tryd.func25, Tryd.ntmps25
    go_wp2_with (go_at_call 57; refine (rtoYMD_any _ _).mono ?_; rintro e w' ⟨rfl, rfl⟩; rw [ht]; dsimp only)
    go_ret
    exact ⟨ret_int (by rw [HR.out]; omega), rfl⟩

set_option maxHeartbeats 1000000 in
theorem rmdays_any (m : Int) (w : World) :
    Calls Tryd.prog 27 #[.int .i64 m] w fun e w' => e = .returned (.int .i64 (daysM m)) ∧ w = w' := by
  cases hm : monB m
  · have HR := Lib.hid (daysM_no hm)
    go_enter Tryd.func27, Tryd.ntmps27
    go_wp2_with (go_at_call 54; refine (rmvalid_any _ _).mono ?_; rintro e w' ⟨rfl, rfl⟩; rw [hm])
    go_ret
    exact ⟨ret_int HR.out.symm, rfl⟩
  · have HR := Lib.hid (daysM_yes hm)
    obtain ⟨m0, m1⟩ := monB_iff.1 hm
    go_enter Tryd.func27, Tryd.ntmps27
    go_wp2_with (first
      | (go_at_call 54; refine (rmvalid_any _ _).mono ?_; rintro e w' ⟨rfl, rfl⟩; rw [hm])
      | (go_at_call 59; refine (rdim_any (mY m) (mM m) _).mono ?_; rintro e w' ⟨rfl, rfl⟩))
    go_ret
    exact ⟨ret_int HR.out.symm, rfl⟩

set_option maxRecDepth 100000 in
set_option maxHeartbeats 1000000 in
theorem rmrange_any (m : Int) (w : World) :
    Calls Tryd.prog 23 #[.int .i64 m] w fun e w' => e = .returned (.tuple #[.agg #[.int .i64 (rgS m).1, .int .i64 (rgS m).2.1], .int .i64 (rgS m).2.2]) ∧ Kept w w' := by
  cases hm : monB m
  · have HR := Lib.hid (rgS_no hm)
    go_enter Tryd.func23, Tryd.ntmps23
    go_wp2_with (go_at_call 54; refine (rmvalid_any _ _).mono ?_; rintro e w' ⟨rfl, rfl⟩; rw [hm])
    refine bodyPost_ret (v := .tuple #[.agg #[.int .i64 0, .int .i64 0], .int .i64 3]) (by simp [results, Tryd.results23, go_sem]) rfl ⟨rg_ret HR.out, ?_⟩
    exact (Kept.refl _).alloc _
  · have HR := Lib.hid (rgS_yes hm)
    obtain ⟨m0, m1⟩ := monB_iff.1 hm
    have hf := from_first hm
    have hfb := firstM_bd hm
    have hdb := daysM_bd hm
    go_enter Tryd.func23, Tryd.ntmps23
    go_wp2_with (first
      | (go_at_call 54; refine (rmvalid_any _ _).mono ?_; rintro e w' ⟨rfl, rfl⟩; rw [hm])
      | (go_at_call 55; refine (rfromYMD_any (mY m) (mM m) 1 _).mono ?_; rintro e w' ⟨rfl, rfl⟩; rw [hf]; dsimp only)
      | (go_at_call 27; refine (rmdays_any m _).mono ?_; rintro e w' ⟨rfl, rfl⟩))
    refine bodyPost_ret (v := .tuple #[.agg #[.int .i64 (firstM m), .int .i64 (firstM m + daysM m)], .int .i64 0]) (by simp [results, Tryd.results23, go_sem]) rfl ⟨rg_ret HR.out, ?_⟩
    exact (Kept.refl _).alloc _
end Go.Proofs.YtmlkgfacenajnaaDoor
