/- What date.ToYMD, Weekday, AddMonths and YearsBetween compute. -/
import Derived.Test.YtdnjfpmngnkcfaaGreatDoorDate
import Derived.Test.YtdnjfpmngnkcfaaGreatDoorDateMathB
namespace Go.Proofs.YtdnjfpmngnkcfaaGreatDoor
open Go.RowKit

set_option maxHeartbeats 400000 in
theorem dvalid_any (d : Int) (w : World) :
    Calls Tryz.prog 72 #[.int .i64 d] w fun e w' => e = .returned (.bool (isDate d)) ∧ w = w' := by
  go_enter Tryz.func72, Tryz.ntmps72
  go_wp2
  all_goals (go_ret; exact ⟨ret_bool (by simp [isDate]; try omega), rfl⟩)

theorem ret_int3 {r : Int × Int × Int} {a b c : Int} (h : r = (a, b, c)) : Ending.returned (.tuple #[.int .i64 a, .int .i64 b, .int .i64 c]) = .returned (.tuple #[.int .i64 r.1, .int .i64 r.2.1, .int .i64 r.2.2]) := by rw [h]
theorem toS_at {n y : Int} {j : Nat} (h1 : 1900 ≤ y) (h2 : y ≤ 2199) (hj : j < 12) (h0 : 0 ≤ n - ysS y - cumM y j) (h3 : n - ysS y - cumM y j < dimS y (j + 1)) : toS n = (y, (j : Int) + 1, n - ysS y - cumM y j + 1) := by
  refine toS_eq (ymdB_iff.2 ⟨h1, h2, by omega, by omega, by omega, by omega⟩) ?_
  unfold dayNo
  rw [show ((j : Int) + 1 - 1).toNat = j from by omega]; omega
set_option maxHeartbeats 1000000 in
theorem toYMD_any (n : Int) (w : World) (hM : Mon w) :
    Calls Tryz.prog 73 #[.int .i64 n] w fun e w' => e = .returned (.tuple #[.int .i64 (toS n).1, .int .i64 (toS n).2.1, .int .i64 (toS n).2.2]) ∧ w = w' := by
  cases hd : isDate n
  · have HR := Lib.hid (toS_no (isDate_not.1 hd))
    go_enter Tryz.func73, Tryz.ntmps73
    go_wp2_with (go_at_call 72; refine (dvalid_any _ _).mono ?_; rintro e w' ⟨rfl, rfl⟩)
    go_ret3
    exact ⟨ret_int3 HR.out, rfl⟩
  · have hdd := isDate_iff.1 hd
    have n0 := hdd.1
    have n1 := hdd.2
    clear hdd
    go_enter Tryz.func73, Tryz.ntmps73
    go_wp2_with (go_at_call 72; refine (dvalid_any _ _).mono ?_; rintro e w' ⟨rfl, rfl⟩)
    have hst := ysS_bd (1900 + n / 366) (by omega) (by omega)
    go_loop [5] (fun x => ∃ y : Int, x = .int .i64 y ∧ 1900 ≤ y ∧ y ≤ 2199 ∧ ysS y ≤ n) (fun x => (2200 - intOf x).toNat)
    case atStart => exact ⟨_, rfl, by omega, by omega, by omega⟩
    case round =>
      obtain ⟨y, rfl, h1, h2, h3⟩ := hrel
      clear hst
      by_cases hlt : ysS (y + 1) ≤ n
      · have hne : y ≠ 2199 := by
          rintro rfl
          have : ysS (2199 + 1) = 109573 := ysS_2200
          omega
        have hy : y + 1 ≤ 2199 := by omega
        clear hne
        go_wp2_with (go_at_call 93; refine (ys_any _ _ (by omega) (by omega)).mono ?_; rintro e w' ⟨rfl, rfl⟩)
        go_round
        case rel => exact ⟨y + 1, rfl, by omega, hy, hlt⟩
        case measure => simp only [intOf]; omega
      · have hnx := ysS_succ y (by omega)
        have hcum := cumM_12 y
        have hbd := ysS_bd y h1 (by omega)
        have HNX := Lib.hid hnx
        have HCUM := Lib.hid hcum
        have hlt' : n < ysS (y + 1) := by omega
        clear hnx hcum hlt
        go_wp2_with (go_at_call 93; refine (ys_any _ _ (by omega) (by omega)).mono ?_; rintro e w' ⟨rfl, rfl⟩)
        go_loop [6, 7, 8, 26] (fun r z l k => ∃ j : Nat, j ≤ 12 ∧ k = .int .i64 j ∧ r = .int .i64 (n - ysS y - cumM y j) ∧ 0 ≤ n - ysS y - cumM y j) (fun _ _ _ k => (12 - intOf k).toNat)
        case atStart => exact ⟨0, by omega, rfl, by simp [cumM], by simp [cumM]; omega⟩
        case round =>
          obtain ⟨j, hj, rfl, rfl, hr⟩ := hrel
          have hcb := cumM_bd y j hj
          by_cases hj12 : j < 12
          · have hdl := dimS_le y (j + 1)
            by_cases hrd : n - ysS y - cumM y j < dimS y (j + 1)
            · have HR := Lib.hid (toS_at h1 h2 hj12 hr hrd)
              go_wp2_with (go_at_call 94; refine (dim_any _ _ _ hM).mono ?_; rintro e w' ⟨rfl, rfl⟩)
              go_ret3
              exact ⟨ret_int3 HR.out, rfl⟩
            · go_wp2_with (go_at_call 94; refine (dim_any _ _ _ hM).mono ?_; rintro e w' ⟨rfl, rfl⟩)
              go_round
              case rel => exact ⟨j + 1, by omega, by go_num, by rw [cumM]; congr 1; omega, by rw [cumM]; omega⟩
              case measure => simp only [intOf]; omega
          · exfalso
            obtain rfl : j = 12 := by omega
            have := HNX.out
            have := HCUM.out
            omega
end Go.Proofs.YtdnjfpmngnkcfaaGreatDoor
