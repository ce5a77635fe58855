/- What the reference's ToYMD, Weekday, AddMonths and YearsBetween compute. -/
import Derived.Test.YtemejaomfbhldaaGreatDoorRefDate
namespace Go.Proofs.YtemejaomfbhldaaGreatDoor
open Go.RowKit

set_option maxHeartbeats 1000000 in
theorem rtoYMD_any (n : Int) (w : World) :
    Calls Tryz.prog 42 #[.int .i64 n] w fun e w' => e = .returned (.tuple #[.int .i64 (toS n).1, .int .i64 (toS n).2.1, .int .i64 (toS n).2.2]) ∧ w = w' := by
  cases hd : isDate n
  · have HR := Lib.hid (toS_no (isDate_not.1 hd))
    go_enter Tryz.func42, Tryz.ntmps42
    go_wp2_with (go_at_call 41; refine (rdvalid_any _ _).mono ?_; rintro e w' ⟨rfl, rfl⟩)
    go_ret3
    exact ⟨ret_int3 HR.out, rfl⟩
  · have hdd := isDate_iff.1 hd
    have n0 := hdd.1
    have n1 := hdd.2
    clear hdd
    go_enter Tryz.func42, Tryz.ntmps42
    go_wp2_with (go_at_call 41; refine (rdvalid_any _ _).mono ?_; rintro e w' ⟨rfl, rfl⟩)
    go_loop [0, 5] (fun r x => ∃ y : Int, x = .int .i64 y ∧ r = .int .i64 (n - ysS y) ∧ 1900 ≤ y ∧ y ≤ 2199 ∧ ysS y ≤ n) (fun _ x => (2200 - intOf x).toNat)
    case atStart => exact ⟨1900, rfl, by rw [ysS_1900]; congr 1; omega, by omega, by omega, by rw [ysS_1900]; omega⟩
    case round =>
      obtain ⟨y, rfl, rfl, h1, h2, h3⟩ := hrel
      have hnx := ysS_succ y (by omega)
      have hlb := leapI_bd y
      have hbd := ysS_bd y h1 (by omega)
      by_cases hlt : ysS (y + 1) ≤ n
      · have hne : y ≠ 2199 := by
          rintro rfl
          have : ysS (2199 + 1) = 109573 := ysS_2200
          omega
        have hy : y + 1 ≤ 2199 := by omega
        clear hne
        go_wp2_with (go_at_call 66; refine (rdiy_any _ _).mono ?_; rintro e w' ⟨rfl, rfl⟩)
        go_round
        case rel => exact ⟨y + 1, rfl, by congr 1; omega, by omega, hy, hlt⟩
        case measure => simp only [intOf]; omega
      · have HCUM := Lib.hid (cumM_12 y)
        have hup : n - ysS y < 365 + leapI y := by omega
        clear hnx hlt
        go_wp2_with (go_at_call 66; refine (rdiy_any _ _).mono ?_; rintro e w' ⟨rfl, rfl⟩)
        go_loop [0, 6] (fun r k => ∃ j : Nat, j < 12 ∧ k = .int .i64 (j + 1) ∧ r = .int .i64 (n - ysS y - cumM y j) ∧ 0 ≤ n - ysS y - cumM y j) (fun _ k => (12 - intOf k).toNat)
        case atStart => exact ⟨0, by omega, rfl, by simp [cumM], by simp [cumM]; omega⟩
        case round =>
          obtain ⟨j, hj, rfl, rfl, hr⟩ := hrel
          have hcb := cumM_bd y j (by omega)
          have hdl := dimS_le y (j + 1)
          by_cases hrd : n - ysS y - cumM y j < dimS y (j + 1)
          · have HR := Lib.hid (toS_at h1 h2 hj hr hrd)
            go_wp2_with (go_at_call 67; refine (rdim_any _ _ _).mono ?_; rintro e w' ⟨rfl, rfl⟩)
            go_ret3
            exact ⟨ret_int3 HR.out, rfl⟩
          · have hj12 : j + 1 < 12 := by
              rcases Nat.lt_or_ge (j + 1) 12 with hl | hg
              · exact hl
              · exfalso
                obtain rfl : j = 11 := by omega
                have hc := HCUM.out
                rw [cumM] at hc
                omega
            go_wp2_with (go_at_call 67; refine (rdim_any _ _ _).mono ?_; rintro e w' ⟨rfl, rfl⟩)
            go_round
            case rel => exact ⟨j + 1, hj12, by go_num, by rw [cumM]; congr 1; omega, by rw [cumM]; omega⟩
            case measure => simp only [intOf]; omega

/-- what the reference's AddMonths computes: the same, by another count of months -/
theorem addM_ref {a n : Int} (h : isDate a = true) (h1 : -3600 ≤ n) (h2 : n ≤ 3600) :
    addM a n = fromS ((12 * (toS a).1 + (toS a).2.1 - 1 + n) / 12) ((12 * (toS a).1 + (toS a).2.1 - 1 + n) % 12 + 1)
      (min (toS a).2.2 (dimS ((12 * (toS a).1 + (toS a).2.1 - 1 + n) / 12) ((12 * (toS a).1 + (toS a).2.1 - 1 + n) % 12 + 1))) := by
  have hm : 12 * (toS a).1 + (toS a).2.1 - 1 + n = monS a n + 12 * 1900 := by unfold monS; omega
  rw [hm, show (monS a n + 12 * 1900) / 12 = 1900 + monS a n / 12 from by omega, show (monS a n + 12 * 1900) % 12 = monS a n % 12 from by omega]
  cases hok : addOk a n
  · rw [addM_no hok, fromS_no]
    have hnot := addOk_not hok
    rw [h] at hnot
    cases hc : ymdB (1900 + monS a n / 12) (monS a n % 12 + 1) (min (toS a).2.2 (dimS (1900 + monS a n / 12) (monS a n % 12 + 1)))
    · rfl
    · have hc' := ymdB_iff.1 hc
      rcases hnot with hh | hh | hh | hh | hh
      · exact absurd hh (by decide)
      all_goals omega
  · exact addM_ok hok
end Go.Proofs.YtemejaomfbhldaaGreatDoor
