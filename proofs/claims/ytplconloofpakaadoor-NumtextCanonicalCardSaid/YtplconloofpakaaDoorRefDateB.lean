/- What the reference's ToYMD, Weekday, AddMonths and YearsBetween compute. -/
import Derived.Test.YtplconloofpakaaDoorRefDate
namespace Go.Proofs.YtplconloofpakaaDoor
open Go.RowKit

set_option maxHeartbeats 1000000 in
theorem rtoYMD_any (n : Int) (w : World) :
    Calls Tryd.prog 17 #[.int .i64 n] w fun e w' => e = .returned (.tuple #[.int .i64 (toS n).1, .int .i64 (toS n).2.1, .int .i64 (toS n).2.2]) ∧ w = w' := by
  cases hd : isDate n
  · have HR := Lib.hid (toS_no (isDate_not.1 hd))
    go_enter Tryd.func17, Tryd.ntmps17
    go_wp2_with (go_at_call 50; refine (rdvalid_any _ _).mono ?_; rintro e w' ⟨rfl, rfl⟩)
    go_ret3
    exact ⟨ret_int3 HR.out, rfl⟩
  · have hdd := isDate_iff.1 hd
    have n0 := hdd.1
    have n1 := hdd.2
    clear hdd
    go_enter Tryd.func17, Tryd.ntmps17
    go_wp2_with (go_at_call 50; refine (rdvalid_any _ _).mono ?_; rintro e w' ⟨rfl, rfl⟩)
    go_loop [0, 5] (fun r x => ∃ y : Int, x = .int .i64 y ∧ r = .int .i64 (n - ysS y) ∧ 1900 ≤ y ∧ y ≤ 2199 ∧ ysS y ≤ n) (fun _ x => (2200 - intOf x).toNat)
    case atStart => exact ⟨1900, rfl, by rw [ysS_1900]; congr 1; omega, by omega, by omega, by rw [ysS_1900]; omega⟩
    case round =>
      obtain ⟨y, rfl, rfl, h1, h2, h3⟩ := hrel
      have hnx := ysS_succ y (by omega)
      have hlb := leapI_bd y
      have hbd := ysS_bd y h1 (by omega)
      by_cases hlt : ysS (y + 1) ≤ n
      · have hne : y ≠ 2199 := by
          rintro rfl
          have : ysS (2199 + 1) = 109573 := ysS_2200
          omega
        have hy : y + 1 ≤ 2199 := by omega
        clear hne
        go_wp2_with (go_at_call 48; refine (rdiy_any _ _).mono ?_; rintro e w' ⟨rfl, rfl⟩)
        go_round
        case rel => exact ⟨y + 1, rfl, by congr 1; omega, by omega, hy, hlt⟩
        case measure => simp only [intOf]; omega
      · have HCUM := Lib.hid (cumM_12 y)
        have hup : n - ysS y < 365 + leapI y := by omega
        clear hnx hlt
        go_wp2_with (go_at_call 48; refine (rdiy_any _ _).mono ?_; rintro e w' ⟨rfl, rfl⟩)
        go_loop [0, 6] (fun r k => ∃ j : Nat, j < 12 ∧ k = .int .i64 (j + 1) ∧ r = .int .i64 (n - ysS y - cumM y j) ∧ 0 ≤ n - ysS y - cumM y j) (fun _ k => (12 - intOf k).toNat)
        case atStart => exact ⟨0, by omega, rfl, by simp [cumM], by simp [cumM]; omega⟩
        case round =>
          obtain ⟨j, hj, rfl, rfl, hr⟩ := hrel
          have hcb := cumM_bd y j (by omega)
          have hdl := dimS_le y (j + 1)
          by_cases hrd : n - ysS y - cumM y j < dimS y (j + 1)
          · have HR := Lib.hid (toS_at h1 h2 hj hr hrd)
            go_wp2_with (go_at_call 21; refine (rdim_any _ _ _).mono ?_; rintro e w' ⟨rfl, rfl⟩)
            go_ret3
            exact ⟨ret_int3 HR.out, rfl⟩
          · have hj12 : j + 1 < 12 := by
              rcases Nat.lt_or_ge (j + 1) 12 with hl | hg
              · exact hl
              · exfalso
                obtain rfl : j = 11 := by omega
                have hc := HCUM.out
                rw [cumM] at hc
                omega
            go_wp2_with (go_at_call 21; refine (rdim_any _ _ _).mono ?_; rintro e w' ⟨rfl, rfl⟩)
            go_round
            case rel => exact ⟨j + 1, hj12, by go_num, by rw [cumM]; congr 1; omega, by rw [cumM]; omega⟩
            case measure => simp only [intOf]; omega

set_option maxHeartbeats 400000 in
theorem rweekday_any (d : Int) (w : World) :
    Calls Tryd.prog 26 #[.int .i64 d] w fun e w' => e = .returned (.int .i64 (wdS d)) ∧ w = w' := by
  cases hd : isDate d
  · have HR := Lib.hid (show wdS d = -1 by rw [wdS, hd]; rfl)
    go_enter Tryd.func26, Tryd.ntmps26
    go_wp2_with (go_at_call 50; refine (rdvalid_any _ _).mono ?_; rintro e w' ⟨rfl, rfl⟩)
    go_ret
    exact ⟨ret_int (by rw [HR.out]), rfl⟩
  · have HR := Lib.hid (show wdS d = d % 7 by rw [wdS, hd]; rfl)
    have hdd := isDate_iff.1 hd
    have n0 := hdd.1
    have n1 := hdd.2
    clear hdd
    go_enter Tryd.func26, Tryd.ntmps26
    go_wp2_with (go_at_call 50; refine (rdvalid_any _ _).mono ?_; rintro e w' ⟨rfl, rfl⟩)
    go_ret
    exact ⟨ret_int (by rw [HR.out]), rfl⟩

/-- what the reference's AddMonths computes: the same, by another count of months -/
theorem addM_ref {a n : Int} (h : isDate a = true) (h1 : -3600 ≤ n) (h2 : n ≤ 3600) :
    addM a n = fromS ((12 * (toS a).1 + (toS a).2.1 - 1 + n) / 12) ((12 * (toS a).1 + (toS a).2.1 - 1 + n) % 12 + 1)
      (min (toS a).2.2 (dimS ((12 * (toS a).1 + (toS a).2.1 - 1 + n) / 12) ((12 * (toS a).1 + (toS a).2.1 - 1 + n) % 12 + 1))) := by
  have hm : 12 * (toS a).1 + (toS a).2.1 - 1 + n = monS a n + 12 * 1900 := by unfold monS; omega
  rw [hm, show (monS a n + 12 * 1900) / 12 = 1900 + monS a n / 12 from by omega, show (monS a n + 12 * 1900) % 12 = monS a n % 12 from by omega]
  cases hok : addOk a n
  · rw [addM_no hok, fromS_no]
    have hnot := addOk_not hok
    rw [h] at hnot
    cases hc : ymdB (1900 + monS a n / 12) (monS a n % 12 + 1) (min (toS a).2.2 (dimS (1900 + monS a n / 12) (monS a n % 12 + 1)))
    · rfl
    · have hc' := ymdB_iff.1 hc
      rcases hnot with hh | hh | hh | hh | hh
      · exact absurd hh (by decide)
      all_goals omega
  · exact addM_ok hok
set_option maxHeartbeats 1000000 in
theorem raddMonths_any (a n : Int) (w : World) :
    Calls Tryd.prog 24 #[.int .i64 a, .int .i64 n] w fun e w' => e = .returned (.tuple #[.int .i64 (addM a n).1, .int .i64 (addM a n).2]) ∧ w = w' := by
  have hout : isDate a = false ∨ (isDate a = true ∧ n < -3600) ∨ (isDate a = true ∧ -3600 ≤ n ∧ 3600 < n) ∨ (isDate a = true ∧ -3600 ≤ n ∧ n ≤ 3600) := by
    cases hd : isDate a <;> simp <;> omega
  have hno : (isDate a = false ∨ n < -3600 ∨ 3600 < n) → addM a n = (0, 3) := by
    intro h
    refine addM_no ?_
    cases hk : addOk a n
    · rfl
    · obtain ⟨k0, k1, k2, k3, k4⟩ := addOk_iff.1 hk
      rcases h with h | h | h
      · rw [k0] at h; exact absurd h (by decide)
      all_goals omega
  rcases hout with h1 | ⟨h1, h2⟩ | ⟨h1, h2, h3⟩ | ⟨h1, h2, h3⟩
  case inl | inr.inl | inr.inr.inl =>
    have HR := Lib.hid (hno (by first | exact .inl h1 | exact .inr (.inl h2) | exact .inr (.inr h3)))
    clear hno
    go_enter Tryd.func24, Tryd.ntmps24
    go_wp2_with (go_at_call 50; refine (rdvalid_any _ _).mono ?_; rintro e w' ⟨rfl, rfl⟩)
    go_ret2
    exact ⟨from_ret HR.out, rfl⟩
  · have HR := Lib.hid (addM_ref h1 h2 h3)
    have hb := toS_bd h1
    clear hno
    generalize ht : toS a = t at *
    obtain ⟨ty, tm, td⟩ := t
    dsimp only at *
    obtain ⟨k, hk⟩ : ∃ k, 12 * ty + tm - 1 + n = k := ⟨_, rfl⟩
    rw [hk] at HR
    have hdl := dimS_bd (k / 12) (k % 12 + 1) (by omega) (by omega)
    go_enter Tryd.func24, Tryd.ntmps24
    go_wp2_with (first | (go_at_call 50; refine (rdvalid_any _ _).mono ?_; rintro e w' ⟨rfl, rfl⟩) | (go_at_call 17; refine (rtoYMD_any _ _).mono ?_; rintro e w' ⟨rfl, rfl⟩; rw [ht]; dsimp only) | (go_at_call 21; refine (rdim_any _ _ _).mono ?_; rintro e w' ⟨rfl, rfl⟩) | (go_at_call 15; refine (rfromYMD_any _ _ _ _).mono ?_; rintro e w' ⟨rfl, rfl⟩))
    all_goals
      go_ret2
      refine ⟨?_, rfl⟩
      rw [HR.out]
      first
        | rw [show min td (dimS (k / 12) (k % 12 + 1)) = td from by omega]; rfl
        | rw [show min td (dimS (k / 12) (k % 12 + 1)) = dimS (k / 12) (k % 12 + 1) from by omega]; rfl

set_option maxHeartbeats 1000000 in
theorem ryears_any (a b : Int) (w : World) :
    Calls Tryd.prog 28 #[.int .i64 a, .int .i64 b] w fun e w' => e = .returned (.int .i64 (ybS a b)) ∧ w = w' := by
  by_cases hv : isDate a = true ∧ isDate b = true
  · obtain ⟨h1, h2⟩ := hv
    have hbd := ybS_bd a b
    go_enter Tryd.func28, Tryd.ntmps28
    go_wp2_with (go_at_call 50; refine (rdvalid_any _ _).mono ?_; rintro e w' ⟨rfl, rfl⟩)
    go_loop [5] (fun x => ∃ j : Int, x = .int .i64 j ∧ 0 ≤ j ∧ j ≤ ybS a b) (fun x => (300 - intOf x).toNat)
    case atStart => exact ⟨0, rfl, by omega, hbd.1⟩
    case round =>
      obtain ⟨j, rfl, q0, q1⟩ := hrel
      by_cases hlt : j < ybS a b
      · have hin : ybIn a b = true := by
          cases hk : ybIn a b
          · rw [ybS_no hk] at hlt; omega
          · rfl
        obtain ⟨u1, u2⟩ := yb_upto hin (j := j + 1) (by omega) (by omega)
        generalize ht : addM a (12 * (j + 1)) = t at *
        obtain ⟨t1, t2⟩ := t
        dsimp only at *
        subst u1
        go_wp2_with (go_at_call 24; refine (raddMonths_any _ _ _).mono ?_; rintro e w' ⟨rfl, rfl⟩; rw [ht]; dsimp only)
        go_round
        case rel => exact ⟨j + 1, rfl, by omega, by omega⟩
        case measure => simp only [intOf]; omega
      · obtain rfl : j = ybS a b := by omega
        have u := yb_next h1 h2
        have HR := Lib.hid (show ybS a b = ybS a b from rfl)
        generalize ht : addM a (12 * (ybS a b + 1)) = t at *
        obtain ⟨t1, t2⟩ := t
        dsimp only at *
        by_cases hc : t2 = 0
        · subst hc
          have u2 : b < t1 := by rcases u with h | h; exact absurd rfl h; exact h
          go_wp2_with (go_at_call 24; refine (raddMonths_any _ _ _).mono ?_; rintro e w' ⟨rfl, rfl⟩; rw [ht]; dsimp only)
          go_ret
          exact ⟨rfl, rfl⟩
        · go_wp2_with (go_at_call 24; refine (raddMonths_any _ _ _).mono ?_; rintro e w' ⟨rfl, rfl⟩; rw [ht]; dsimp only)
          go_ret
          exact ⟨rfl, rfl⟩
  · have hr : isDate a = false ∨ (isDate a = true ∧ isDate b = false) := by
      cases ha : isDate a <;> cases hb : isDate b <;> simp_all
    have HR := Lib.hid (show ybS a b = 0 by refine ybS_no ?_; unfold ybIn; rcases hr with h | ⟨h, h'⟩ <;> simp [*])
    clear hv
    rcases hr with h1 | ⟨h1, h2⟩
    all_goals
      go_enter Tryd.func28, Tryd.ntmps28
      go_wp2_with (go_at_call 50; refine (rdvalid_any _ _).mono ?_; rintro e w' ⟨rfl, rfl⟩)
      go_ret
      exact ⟨ret_int HR.out.symm, rfl⟩
end Go.Proofs.YtplconloofpakaaDoor
