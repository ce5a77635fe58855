/- What date.Weekday, AddMonths and YearsBetween compute. -/
import Derived.Test.YtplconloofpakaaDoorDateB
namespace Go.Proofs.YtplconloofpakaaDoor
open Go.RowKit

def wdS (d : Int) : Int := if isDate d then d % 7 else -1
set_option maxHeartbeats 400000 in
theorem weekday_any (d : Int) (w : World) :
    Calls Tryd.prog 25 #[.int .i64 d] w fun e w' => e = .returned (.int .i64 (wdS d)) ∧ w = w' := by
  cases hd : isDate d
  · have HR := Lib.hid (show wdS d = -1 by rw [wdS, hd]; rfl)
    go_enter Tryd.func25, Tryd.ntmps25
    go_wp2_with (go_at_call 49; refine (dvalid_any _ _).mono ?_; rintro e w' ⟨rfl, rfl⟩)
    go_ret
    exact ⟨ret_int (by rw [HR.out]), rfl⟩
  · have HR := Lib.hid (show wdS d = d % 7 by rw [wdS, hd]; rfl)
    have hdd := isDate_iff.1 hd
    have n0 := hdd.1
    have n1 := hdd.2
    clear hdd
    go_enter Tryd.func25, Tryd.ntmps25
    go_wp2_with (go_at_call 49; refine (dvalid_any _ _).mono ?_; rintro e w' ⟨rfl, rfl⟩)
    go_ret
    exact ⟨ret_int (by rw [HR.out]), rfl⟩

theorem addOk_not {a n : Int} (h : addOk a n = false) : isDate a = false ∨ (isDate a = true ∧ n < -3600) ∨ (isDate a = true ∧ -3600 ≤ n ∧ 3600 < n) ∨
    (isDate a = true ∧ -3600 ≤ n ∧ n ≤ 3600 ∧ monS a n < 0) ∨ (isDate a = true ∧ -3600 ≤ n ∧ n ≤ 3600 ∧ 0 ≤ monS a n ∧ 3599 < monS a n) := by
  cases hd : isDate a
  · exact .inl rfl
  · have h' : ¬ (isDate a = true ∧ -3600 ≤ n ∧ n ≤ 3600 ∧ 0 ≤ monS a n ∧ monS a n ≤ 3599) := by rw [← addOk_iff, h]; simp
    simp only [hd, true_and] at h'
    simp only [true_and]
    simp only [show (true = false) = False from by simp]
    omega
set_option maxHeartbeats 1000000 in
theorem addMonths_any (a n : Int) (w : World) (hM : Mon w) :
    Calls Tryd.prog 23 #[.int .i64 a, .int .i64 n] w fun e w' => e = .returned (.tuple #[.int .i64 (addM a n).1, .int .i64 (addM a n).2]) ∧ w = w' := by
  cases hok : addOk a n
  · have HR := Lib.hid (addM_no hok)
    have h' := addOk_not hok
    clear hok
    rcases h' with h1 | ⟨h1, h2⟩ | ⟨h1, h2, h3⟩ | ⟨h1, h2, h3, h4⟩ | ⟨h1, h2, h3, h4, h5⟩
    case inl | inr.inl | inr.inr.inl =>
      go_enter Tryd.func23, Tryd.ntmps23
      go_wp2_with (go_at_call 49; refine (dvalid_any _ _).mono ?_; rintro e w' ⟨rfl, rfl⟩)
      go_ret2
      exact ⟨from_ret HR.out, rfl⟩
    all_goals
      have hb := toS_bd h1
      unfold monS at h4
      try unfold monS at h5
      generalize ht : toS a = t at *
      obtain ⟨ty, tm, td⟩ := t
      dsimp only at *
      go_enter Tryd.func23, Tryd.ntmps23
      go_wp2_with (first | (go_at_call 49; refine (dvalid_any _ _).mono ?_; rintro e w' ⟨rfl, rfl⟩) | (go_at_call 16; refine (toYMD_any _ _ hM).mono ?_; rintro e w' ⟨rfl, rfl⟩; rw [ht]; dsimp only))
      go_ret2
      exact ⟨from_ret HR.out, rfl⟩
  · obtain ⟨h1, h2, h3, h4, h5⟩ := addOk_iff.1 hok
    have HR := Lib.hid (addM_ok hok)
    have hb := toS_bd h1
    clear hok
    have HI := Lib.hid (show addIn a n = fromS (1900 + monS a n / 12) (monS a n % 12 + 1) (min (toS a).2.2 (dimS (1900 + monS a n / 12) (monS a n % 12 + 1))) from rfl)
    have hmm : ∃ k, monS a n = k ∧ ((toS a).1 - 1900) * 12 + (toS a).2.1 - 1 + n = k := ⟨_, rfl, rfl⟩
    obtain ⟨k, hk, hk2⟩ := hmm
    rw [hk] at h4 h5 HI
    generalize ht : toS a = t at *
    obtain ⟨ty, tm, td⟩ := t
    dsimp only at *
    go_enter Tryd.func23, Tryd.ntmps23
    have hdl := dimS_bd (1900 + k / 12) (k % 12 + 1) (by omega) (by omega)
    go_wp2_with (first | (go_at_call 49; refine (dvalid_any _ _).mono ?_; rintro e w' ⟨rfl, rfl⟩) | (go_at_call 16; refine (toYMD_any _ _ hM).mono ?_; rintro e w' ⟨rfl, rfl⟩; rw [ht]; dsimp only) | (go_at_call 20; refine (dim_any _ _ _ hM).mono ?_; rintro e w' ⟨rfl, rfl⟩) | (go_at_call 14; refine (fromYMD_any _ _ _ _ hM).mono ?_; rintro e w' ⟨rfl, rfl⟩))
    all_goals
      go_ret2
      refine ⟨?_, rfl⟩
      rw [HR.out, HI.out]
      first
        | rw [show min td (dimS (1900 + k / 12) (k % 12 + 1)) = td from by omega]; rfl
        | rw [show min td (dimS (1900 + k / 12) (k % 12 + 1)) = dimS (1900 + k / 12) (k % 12 + 1) from by omega]; rfl

theorem ybIn_not {a b : Int} (h : ybIn a b = false) : isDate a = false ∨ (isDate a = true ∧ isDate b = false) ∨ (isDate a = true ∧ isDate b = true ∧ b < a) := by
  unfold ybIn at h
  cases ha : isDate a
  · exact .inl rfl
  · cases hb : isDate b
    · exact .inr (.inl ⟨rfl, rfl⟩)
    · refine .inr (.inr ⟨rfl, rfl, ?_⟩)
      rw [ha, hb] at h
      simpa using h
set_option maxHeartbeats 1000000 in
theorem years_any (a b : Int) (w : World) (hM : Mon w) :
    Calls Tryd.prog 27 #[.int .i64 a, .int .i64 b] w fun e w' => e = .returned (.int .i64 (ybS a b)) ∧ w = w' := by
  cases hin : ybIn a b
  · have HR := Lib.hid (ybS_no hin)
    have h' := ybIn_not hin
    clear hin
    rcases h' with h1 | ⟨h1, h2⟩ | ⟨h1, h2, h3⟩
    all_goals
      go_enter Tryd.func27, Tryd.ntmps27
      go_wp2_with (go_at_call 49; refine (dvalid_any _ _).mono ?_; rintro e w' ⟨rfl, rfl⟩)
      go_ret
      exact ⟨ret_int HR.out.symm, rfl⟩
  · obtain ⟨h1, h2, h3⟩ := ybIn_iff.1 hin
    have hb := toS_bd h1
    have hb' := toS_bd h2
    have hy := year_le h1 h2 h3
    have hcode := (anniv (j := (toS b).1 - (toS a).1) h1 (by omega) (by omega)).1
    have hcases := yb_cases hin
    clear hin
    generalize ht : toS a = t at *
    obtain ⟨ty, tm, td⟩ := t
    generalize ht' : toS b = t' at *
    obtain ⟨ty', tm', td'⟩ := t'
    dsimp only at *
    generalize hr : addM a (12 * (ty' - ty)) = r at *
    obtain ⟨r, c⟩ := r
    dsimp only at *
    subst hcode
    rcases hcases with ⟨e1, e2⟩ | ⟨e1, e2, e3⟩
    all_goals
      have HE := Lib.hid e1
      clear e1
      go_enter Tryd.func27, Tryd.ntmps27
      go_wp2_with (first | (go_at_call 49; refine (dvalid_any _ _).mono ?_; rintro e w' ⟨rfl, rfl⟩) | (go_at_call 16; refine (toYMD_any _ _ hM).mono ?_; rintro e w' ⟨rfl, rfl⟩; first | rw [ht] | rw [ht']; dsimp only) | (go_at_call 23; refine (addMonths_any _ _ _ hM).mono ?_; rintro e w' ⟨rfl, rfl⟩; rw [hr]; dsimp only))
      all_goals (go_ret; exact ⟨ret_int (by rw [HE.out]; try omega), rfl⟩)
end Go.Proofs.YtplconloofpakaaDoor
