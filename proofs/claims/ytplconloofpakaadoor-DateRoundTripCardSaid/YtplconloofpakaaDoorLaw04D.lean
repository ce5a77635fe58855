/- The walks of the laws DateAnniversary and DateRoundTrip. -/
import Derived.Test.YtplconloofpakaaDoorLaw04B
import Derived.Test.YtplconloofpakaaDoorDateTextMath
namespace Go.Proofs.YtplconloofpakaaDoor
open Go.RowKit

set_option maxRecDepth 100000 in
set_option maxHeartbeats 4000000 in
theorem lawAnniversary (a b : Int) (w : World) (hM : Mon w) (hP : Pow w) :
    Calls Tryd.prog 5 #[.int .i64 a, .int .i64 b] w (LawPost w) := by
  unfold LawPost
  cases hin : ybIn a b
  · have HN := Lib.hid (ybS_no hin)
    have hr : a < 0 ∨ (0 ≤ a ∧ 109572 < b) ∨ (0 ≤ a ∧ b ≤ 109572 ∧ b < a) := by
      have : ¬ ((0 ≤ a ∧ a ≤ 109572) ∧ (0 ≤ b ∧ b ≤ 109572) ∧ a ≤ b) := fun h => by
        rw [ybIn_iff.2 ⟨isDate_iff.2 h.1, isDate_iff.2 h.2.1, h.2.2⟩] at hin; cases hin
      omega
    clear hin
    rcases hr with h1 | ⟨h1, h2⟩ | ⟨h1, h2, h3⟩
    all_goals
      go_enter Tryd.func5, Tryd.ntmps5
      go_wp2_with (first
        | (go_at_call 27; refine (years_any _ _ _ hM).mono ?_; rintro e w' ⟨rfl, rfl⟩; rw [HN.out])
        | (go_at_call 22; refine (awake04_any _ hM hP).mono ?_; rintro e w' ⟨rfl, hk⟩))
      go_ret
      exact ⟨rfl, hk⟩
  · obtain ⟨k1, k2, k3⟩ := ybIn_iff.1 hin
    have q1 := isDate_iff.1 k1
    have q2 := isDate_iff.1 k2
    obtain ⟨a0, a1⟩ := q1
    obtain ⟨b0, b1⟩ := q2
    obtain ⟨n0, n1⟩ := ybS_bd a b
    obtain ⟨u1, u2⟩ := yb_upto hin n0 (Int.le_refl _)
    have v := yb_next k1 k2
    clear hin k1 k2
    generalize hn : ybS a b = n at *
    rw [show 12 * (n + 1) = 12 * n + 12 by omega] at v
    generalize hx : addM a (12 * n) = x at *
    obtain ⟨x1, x2⟩ := x
    generalize hy : addM a (12 * n + 12) = y at *
    obtain ⟨y1, y2⟩ := y
    dsimp only at *
    subst u1
    have v' : y2 ≠ 0 ∨ (y2 = 0 ∧ b < y1) := by
      by_cases e : y2 = 0
      · exact .inr ⟨e, by rcases v with h | h; exact absurd e h; exact h⟩
      · exact .inl e
    clear v
    rcases v' with hv | ⟨rfl, hv⟩
    all_goals
      go_enter Tryd.func5, Tryd.ntmps5
      go_wp2_with (first
        | (go_at_call 27; refine (years_any _ _ _ hM).mono ?_; rintro e w' ⟨rfl, rfl⟩; rw [hn])
        | (go_at_call 23; refine (addMonths_any _ _ _ hM).mono ?_; rintro e w' ⟨rfl, rfl⟩; first | rw [hx] | rw [hy]; dsimp only)
        | (go_at_call 22; refine (awake04_any _ hM hP).mono ?_; rintro e w' ⟨rfl, hk⟩))
      go_ret
      exact ⟨rfl, hk⟩

theorem wdS_next {n : Int} (h : isDate n = true) (h1 : n ≠ 109572) : 0 ≤ wdS n ∧ wdS n ≤ 6 ∧ wdS (n + 1) = (wdS n + 1) % 7 := by
  have h' := isDate_iff.1 h
  have e1 : wdS n = n % 7 := by rw [wdS, h]; rfl
  have e2 : wdS (n + 1) = (n + 1) % 7 := by rw [wdS, isDate_iff.2 ⟨by omega, by omega⟩]; rfl
  rw [e1, e2]; omega

set_option maxRecDepth 100000 in
set_option maxHeartbeats 8000000 in
theorem lawRoundTrip (n : Int) (w : World) (hM : Mon w) (hP : Pow w) :
    Calls Tryd.prog 7 #[.int .i64 n] w (LawPost w) := by
  unfold LawPost
  have hK0 := Kept.refl w
  cases hd : isDate n
  · have HT := Lib.hid (toS_no (isDate_not.1 hd))
    have HF := Lib.hid (dateS_no hd)
    have HW := Lib.hid (show wdS n = -1 by rw [wdS, hd]; rfl)
    have hr : n < 0 ∨ (0 ≤ n ∧ 109572 < n) := by have := isDate_not.1 hd; omega
    clear hd
    rcases hr with h1 | ⟨h1, h2⟩
    all_goals
      go_enter Tryd.func7, Tryd.ntmps7
      go_wp2_with (first
        | (go_at_call 16; refine (toYMD_any _ _ hM).mono ?_; rintro e w' ⟨rfl, rfl⟩; rw [HT.out]; dsimp only)
        | (go_at_call 31; refine (format_any _ _ (hM.kept (by assumption)) (hP.kept (by assumption))).mono ?_; rintro e w' ⟨rfl, hk⟩; have hK := Kept.trans (by assumption) hk; rw [HF.out])
        | (go_at_call 25; refine (weekday_any _ _).mono ?_; rintro e w' ⟨rfl, rfl⟩; rw [HW.out])
        | (go_at_call 22; refine (awake04_any _ (hM.kept (by assumption)) (hP.kept (by assumption))).mono ?_; rintro e w' ⟨rfl, hk⟩; have hK := Kept.trans (by assumption) hk))
      go_ret
      exact ⟨rfl, by assumption⟩
  · have hdd := isDate_iff.1 hd
    obtain ⟨n0, n1⟩ := hdd
    have hs := toS_spec n n0 n1
    have hb := toS_bd hd
    have HPS := Lib.hid (dparS_dateS hd)
    have HFR := Lib.hid (show fromS (toS n).1 (toS n).2.1 (toS n).2.2 = (n, 0) by rw [fromS_of hs.1, hs.2])
    have hdl := (dimS_le (toS n).1 (toS n).2.1).2
    have hnx := fun h => toS_next hd h
    have hwd := fun h => wdS_next hd h
    clear hd hs
    generalize ht : toS n = t at *
    obtain ⟨y, m, d⟩ := t
    dsimp only at *
    obtain ⟨b1, b2, b3, b4, b5, b6⟩ := hb
    generalize hdm : dimS y m = D at *
    generalize hds : dateS n = S at *
    by_cases hmax : n = 109572
    · clear hnx hwd
      subst hmax
      go_enter Tryd.func7, Tryd.ntmps7
      go_wp2_with (first
        | (go_at_call 16; refine (toYMD_any _ _ hM).mono ?_; rintro e w' ⟨rfl, rfl⟩; rw [ht]; dsimp only)
        | (go_at_call 14; refine (fromYMD_any _ _ _ _ hM).mono ?_; rintro e w' ⟨rfl, rfl⟩; rw [HFR.out]; dsimp only)
        | (go_at_call 31; refine (format_any _ _ (hM.kept (by assumption)) (hP.kept (by assumption))).mono ?_; rintro e w' ⟨rfl, hk⟩; have hK := Kept.trans (by assumption) hk; rw [hds])
        | (go_at_call 29; refine (parse_any _ _ (hM.kept (by assumption))).mono ?_; rintro e w' ⟨rfl, hk⟩; have hK := Kept.trans (by assumption) hk; rw [HPS.out]; dsimp only)
        | (go_at_call 20; refine (dim_any _ _ _ (hM.kept (by assumption))).mono ?_; rintro e w' ⟨rfl, rfl⟩; rw [hdm])
        | (go_at_call 22; refine (awake04_any _ (hM.kept (by assumption)) (hP.kept (by assumption))).mono ?_; rintro e w' ⟨rfl, hk⟩; have hK := Kept.trans (by assumption) hk))
      go_ret
      exact ⟨rfl, by assumption⟩
    · obtain ⟨w0, w6, w1⟩ := hwd hmax
      have hnx' := hnx hmax
      clear hnx hwd
      generalize hwn : wdS n = W1 at *
      generalize hwn2 : wdS (n + 1) = W2 at *
      rcases hnx' with ⟨g1, g2⟩ | ⟨rfl, g2, g3⟩ | ⟨rfl, rfl, g3⟩
      all_goals
        first | have HN := Lib.hid g3 | have HN := Lib.hid g2
        first | clear g3 | clear g2
        go_enter Tryd.func7, Tryd.ntmps7
        go_wp2_with (first
          | (go_at_call 16; refine (toYMD_any _ _ (hM.kept (by assumption))).mono ?_; rintro e w' ⟨rfl, rfl⟩; first | rw [ht] | rw [HN.out]; dsimp only)
          | (go_at_call 14; refine (fromYMD_any _ _ _ _ hM).mono ?_; rintro e w' ⟨rfl, rfl⟩; rw [HFR.out]; dsimp only)
          | (go_at_call 31; refine (format_any _ _ (hM.kept (by assumption)) (hP.kept (by assumption))).mono ?_; rintro e w' ⟨rfl, hk⟩; have hK := Kept.trans (by assumption) hk; rw [hds])
          | (go_at_call 29; refine (parse_any _ _ (hM.kept (by assumption))).mono ?_; rintro e w' ⟨rfl, hk⟩; have hK := Kept.trans (by assumption) hk; rw [HPS.out]; dsimp only)
          | (go_at_call 20; refine (dim_any _ _ _ (hM.kept (by assumption))).mono ?_; rintro e w' ⟨rfl, rfl⟩; rw [hdm])
          | (go_at_call 25; refine (weekday_any _ _).mono ?_; rintro e w' ⟨rfl, rfl⟩; first | rw [hwn] | rw [hwn2])
          | (go_at_call 22; refine (awake04_any _ (hM.kept (by assumption)) (hP.kept (by assumption))).mono ?_; rintro e w' ⟨rfl, hk⟩; have hK := Kept.trans (by assumption) hk))
        go_ret
        exact ⟨rfl, by assumption⟩
end Go.Proofs.YtplconloofpakaaDoor
