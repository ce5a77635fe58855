/- What the functions of the reference of package date compute. -/
import Derived.Test.YtemejaomfbhldaaGreatDoorDateC
namespace Go.Proofs.YtemejaomfbhldaaGreatDoor
open Go.RowKit

set_option maxHeartbeats 400000 in
theorem rleap_any (y : Int) (w : World) :
    Calls Tryz.prog 86 #[.int .i64 y] w fun e w' => e = .returned (.bool (leapB y)) ∧ w = w' := by
  go_enter Tryz.func86, Tryz.ntmps86
  go_wp2
  all_goals (go_ret; exact ⟨ret_bool (by simp_all [leapB]), rfl⟩)
set_option maxHeartbeats 400000 in
theorem rdiy_any (y : Int) (w : World) :
    Calls Tryz.prog 66 #[.int .i64 y] w fun e w' => e = .returned (.int .i64 (365 + leapI y)) ∧ w = w' := by
  cases hl : leapB y
  all_goals
    have HL := Lib.hid (show leapI y = _ by unfold leapI; rw [hl])
    go_enter Tryz.func66, Tryz.ntmps66
    go_wp2_with (go_at_call 86; refine (rleap_any _ _).mono ?_; rintro e w' ⟨rfl, rfl⟩)
    go_ret
    exact ⟨ret_int (by rw [HL.out]; rfl), rfl⟩
set_option maxHeartbeats 400000 in
theorem rdvalid_any (d : Int) (w : World) :
    Calls Tryz.prog 41 #[.int .i64 d] w fun e w' => e = .returned (.bool (isDate d)) ∧ w = w' := by
  go_enter Tryz.func41, Tryz.ntmps41
  go_wp2
  all_goals (go_ret; exact ⟨ret_bool (by simp [isDate]; try omega), rfl⟩)

set_option maxHeartbeats 1000000 in
theorem rdim_any (y m : Int) (w : World) :
    Calls Tryz.prog 67 #[.int .i64 y, .int .i64 m] w fun e w' => e = .returned (.int .i64 (dimS y m)) ∧ w = w' := by
  by_cases hm : m < 1 ∨ 12 < m
  · have HR := Lib.hid (dimS_out (y := y) hm)
    have hn : m ≠ 1 ∧ m ≠ 2 ∧ m ≠ 3 ∧ m ≠ 4 ∧ m ≠ 5 ∧ m ≠ 6 ∧ m ≠ 7 ∧ m ≠ 8 ∧ m ≠ 9 ∧ m ≠ 10 ∧ m ≠ 11 ∧ m ≠ 12 := by omega
    obtain ⟨n1, n2, n3, n4, n5, n6, n7, n8, n9, n10, n11, n12⟩ := hn
    clear hm
    go_enter Tryz.func67, Tryz.ntmps67
    go_wp2_with fail
    go_ret
    exact ⟨ret_int (by rw [HR.out]), rfl⟩
  · rcases month_cases (m := m) (by omega) (by omega) with rfl | rfl | rfl | rfl | rfl | rfl | rfl | rfl | rfl | rfl | rfl | rfl
    case inr.inl =>
      have HR := Lib.hid (dimS_feb y)
      clear hm
      cases hl : leapB y
      all_goals
        have HL := Lib.hid (show leapI y = _ by unfold leapI; rw [hl])
        go_enter Tryz.func67, Tryz.ntmps67
        go_wp2_with (go_at_call 86; refine (rleap_any _ _).mono ?_; rintro e w' ⟨rfl, rfl⟩)
        go_ret
        exact ⟨ret_int (by rw [HR.out, HL.out]; rfl), rfl⟩
    all_goals
      clear hm
      go_enter Tryz.func67, Tryz.ntmps67
      go_wp2_with fail
      go_ret
      exact ⟨ret_int (by rw [dimS_in (by omega) (by omega) (by omega)]; rfl), rfl⟩

theorem rymd_no {y m d : Int} (h : ymdB y m d = false) : y < 1900 ∨ (1900 ≤ y ∧ 2199 < y) ∨ (1900 ≤ y ∧ y ≤ 2199 ∧ d < 1) ∨ (1900 ≤ y ∧ y ≤ 2199 ∧ 1 ≤ d ∧ dimS y m < d) := by
  rcases ymd_no h with h | h | h | h | h | h
  · omega
  · omega
  · have := dimS_out (y := y) (m := m) (by omega); omega
  · have := dimS_out (y := y) (m := m) (by omega); omega
  · omega
  · omega
set_option maxHeartbeats 1000000 in
theorem rfromYMD_any (y m d : Int) (w : World) :
    Calls Tryz.prog 52 #[.int .i64 y, .int .i64 m, .int .i64 d] w fun e w' => e = .returned (.tuple #[.int .i64 (fromS y m d).1, .int .i64 (fromS y m d).2]) ∧ w = w' := by
  cases hv : ymdB y m d
  · have HR := Lib.hid (show fromS y m d = (0, 3) by unfold fromS; rw [hv]; rfl)
    have h' := rymd_no hv
    clear hv
    rcases h' with h1 | ⟨h1, h2⟩ | ⟨h1, h2, h3⟩ | ⟨h1, h2, h3, h4⟩
    all_goals
      go_enter Tryz.func52, Tryz.ntmps52
      go_wp2_with (go_at_call 67; refine (rdim_any _ _ _).mono ?_; rintro e w' ⟨rfl, rfl⟩)
      go_ret2
      exact ⟨from_ret HR.out, rfl⟩
  · have HV := Lib.hid hv
    obtain ⟨h1, h2, h3, h4, h5, h6⟩ := ymdB_iff.1 hv
    have hd := dimS_le y m
    clear hv
    go_enter Tryz.func52, Tryz.ntmps52
    go_wp2_with (go_at_call 67; refine (rdim_any _ _ _).mono ?_; rintro e w' ⟨rfl, rfl⟩)
    go_loop [8, 9] (fun x k => ∃ j : Int, 1900 ≤ j ∧ j ≤ y ∧ k = .int .i64 j ∧ x = .int .i64 (d - 1 + ysS j)) (fun _ k => (y - intOf k).toNat)
    case atStart => exact ⟨1900, by omega, by omega, rfl, by rw [ysS_1900]; congr 1; omega⟩
    case round =>
      obtain ⟨j, hj1, hj2, rfl, rfl⟩ := hrel
      have hb := ysS_bd j hj1 (by omega)
      by_cases hlt : j < y
      · have hs := ysS_succ j (by omega)
        have hl := leapI_bd j
        go_wp2_with (go_at_call 66; refine (rdiy_any _ _).mono ?_; rintro e w' ⟨rfl, rfl⟩)
        go_round
        case rel => exact ⟨j + 1, by omega, by omega, by go_num, by congr 1; omega⟩
        case measure => simp only [intOf]; omega
      · have hj' : j = y := by omega
        subst hj'
        go_wp2_with fail
        go_loop [8, 10] (fun x k => ∃ i : Nat, (i : Int) + 1 ≤ m ∧ k = .int .i64 (i + 1) ∧ x = .int .i64 (d - 1 + ysS j + cumM j i)) (fun _ k => (m - intOf k).toNat)
        case atStart => exact ⟨0, by omega, rfl, by simp [cumM]⟩
        case round =>
          obtain ⟨i, hi, rfl, rfl⟩ := hrel
          have hc := cumM_bd j i (by omega)
          have hd2 := dimS_le j (i + 1)
          by_cases hlt : (i : Int) + 1 < m
          · go_wp2_with (go_at_call 67; refine (rdim_any _ _ _).mono ?_; rintro e w' ⟨rfl, rfl⟩)
            go_round
            case rel => exact ⟨i + 1, by omega, by go_num, by rw [cumM]; congr 1; omega⟩
            case measure => simp only [intOf]; omega
          · have hj' : (i : Int) = m - 1 := by omega
            have HJ := Lib.hid hj'
            clear hj'
            go_wp2_with fail
            go_ret2
            exact ⟨from_ret (by rw [from_end HV.out HJ.out]; congr 1; omega), rfl⟩
end Go.Proofs.YtemejaomfbhldaaGreatDoor
