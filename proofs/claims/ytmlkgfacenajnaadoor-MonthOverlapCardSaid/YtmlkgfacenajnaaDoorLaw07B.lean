/- The walks of the laws of the chapter on months: each returns true and leaves old memory alone. -/
import Derived.Test.YtmlkgfacenajnaaDoorLaw07A
namespace Go.Proofs.YtmlkgfacenajnaaDoor
open Go.RowKit

set_option maxRecDepth 100000 in
set_option maxHeartbeats 4000000 in
theorem lawMTexts (m : Int) (s : ByteArray) (w : World) (hM : Mon w) (hP : Pow w) :
    Calls Tryd.prog 10 #[.int .i64 m, .string s] w (LawPost w) := by
  unfold LawPost
  obtain ⟨⟨p1, p2⟩, hp⟩ : ∃ p, mparS s = p := ⟨_, rfl⟩
  have HP := Lib.hid hp
  clear hp
  have hK := Kept.refl w
  have hs : ((monthS m).toList == (monthS m).toList) = true := by simp
  generalize hS : monthS m = S at *
  have HS := Lib.hid hS
  clear hS
  go_enter Tryd.func10, Tryd.ntmps10
  go_wp2_with (first
    | (go_at_call 33; refine (mparse_any _ _).mono ?_; rintro e w' ⟨rfl, hk⟩; have hK := Kept.trans (by assumption) hk; rw [HP.out])
    | (go_at_call 34; refine (rmparse_any _ _).mono ?_; rintro e w' ⟨rfl, hk⟩; have hK := Kept.trans (by assumption) hk; rw [HP.out])
    | (go_at_call 35; refine (mformat_any _ _ (hP.kept (by assumption))).mono ?_; rintro e w' ⟨rfl, hk⟩; have hK := Kept.trans (by assumption) hk; rw [HS.out])
    | (go_at_call 36; refine (rmformat_any _ _).mono ?_; rintro e w' ⟨rfl, hk⟩; have hK := Kept.trans (by assumption) hk; rw [HS.out])
    | (go_at_call 30; refine (awake07_any _ (hM.kept (by assumption)) (hP.kept (by assumption))).mono ?_; rintro e w' ⟨rfl, hk⟩; have hK := Kept.trans (by assumption) hk))
  go_ret
  exact ⟨rfl, by assumption⟩

set_option maxRecDepth 100000 in
set_option maxHeartbeats 4000000 in
theorem lawMPayDate (m wk : Int) (A : Option Addr) (n c : Nat) (hs : List Int) (day : Int) (w : World) (hr : Ints w A n hs) (hM : Mon w) (hP : Pow w) :
    Calls Tryd.prog 9 #[.int .i64 m, .agg #[.int .i64 wk, .slice A n c], .int .i64 day] w (LawPost w) := by
  unfold LawPost
  have hK0 := (Kept.refl w).alloc (.cells #[.int .i64 wk, .slice A n c] 43)
  by_cases hn : n ≤ 100
  · obtain ⟨⟨p1, p2⟩, hp⟩ : ∃ p, payS wk hs m day = p := ⟨_, rfl⟩
    have HP := Lib.hid hp
    clear hp
    go_enter Tryd.func9, Tryd.ntmps9
    go_wp2_with fail
    refine (payDate_any wk A n c hs _ (hr.alloc _) hn (hM.kept hK0) _ _).mono ?_
    rintro e w1 ⟨rfl, k1⟩
    rw [HP.out]
    have B := k1.blk1
    have b := B.cell
    have l := B.lt
    go_wp2_with fail
    refine (rpayDate_any wk A n c hs _ ((hr.alloc _).kept k1) hn _ _).mono ?_
    rintro e w2 ⟨rfl, k2⟩
    rw [HP.out]
    have hK := (hK0.trans k1).trans k2
    go_wp2_with (go_at_call 30; refine (awake07_any _ (hM.kept hK) (hP.kept hK)).mono ?_; rintro e w' ⟨rfl, hk⟩)
    go_ret
    exact ⟨rfl, hK.trans hk⟩
  · go_enter Tryd.func9, Tryd.ntmps9
    go_wp2_with (go_at_call 30; refine (awake07_any _ (hM.kept hK0) (hP.kept hK0)).mono ?_; rintro e w' ⟨rfl, hk⟩)
    go_ret
    exact ⟨rfl, hK0.trans hk⟩

set_option maxRecDepth 100000 in
set_option maxHeartbeats 4000000 in
theorem lawMOverlap (m a b c : Int) (w : World) (hM : Mon w) (hP : Pow w) :
    Calls Tryd.prog 12 #[.int .i64 m, .agg #[.int .i64 a, .int .i64 b], .int .i64 c] w (LawPost w) := by
  unfold LawPost
  have hK0 := (Kept.refl w).alloc (.cells #[.int .i64 a, .int .i64 b] 35)
  by_cases hin : 0 ≤ a ∧ a ≤ b ∧ b ≤ 109573 ∧ a ≤ c ∧ c ≤ b
  · obtain ⟨h0, h1, h2, h3, h4⟩ := hin
    have hadd := ovS_add (m := m) h0 h3 h4 h2
    have x0 := ovS_nonneg m a c
    have y0 := ovS_nonneg m c b
    have hx : ovS m a c ≤ 200000 := by
      unfold ovS
      split
      · rename_i h
        simp only [Bool.and_eq_true, decide_eq_true_eq] at h
        omega
      · omega
    have hy : ovS m c b ≤ 200000 := by
      unfold ovS
      split
      · rename_i h
        simp only [Bool.and_eq_true, decide_eq_true_eq] at h
        omega
      · omega
    generalize hX : ovS m a c = x at *
    generalize hY : ovS m c b = y at *
    have HX := Lib.hid hX
    have HY := Lib.hid hY
    have HZ := Lib.hid hadd
    clear hX hY hadd
    go_enter Tryd.func12, Tryd.ntmps12
    go_wp2_with fail
    refine (overlap_any _ _ _ _ (hM.kept hK0)).mono ?_
    rintro e w1 ⟨rfl, k1⟩
    rw [HX.out]
    have B := k1.blk1
    have b1 := B.cell
    have l1 := B.lt
    go_wp2_with fail
    refine (overlap_any _ _ _ _ (hM.kept (hK0.trans k1))).mono ?_
    rintro e w2 ⟨rfl, k2⟩
    rw [HY.out]
    replace B := B.kept k2
    clear b1 l1
    have b1 := B.cell
    have l1 := B.lt
    go_wp2_with fail
    refine (overlap_any _ _ _ _ (hM.kept ((hK0.trans k1).trans k2))).mono ?_
    rintro e w3 ⟨rfl, k3⟩
    rw [HZ.out]
    have hK := ((hK0.trans k1).trans k2).trans k3
    go_wp2_with (go_at_call 30; refine (awake07_any _ (hM.kept hK) (hP.kept hK)).mono ?_; rintro e w' ⟨rfl, hk⟩)
    go_ret
    exact ⟨rfl, hK.trans hk⟩
  · have hc : a < 0 ∨ (0 ≤ a ∧ b < a) ∨ (0 ≤ a ∧ a ≤ b ∧ 109573 < b) ∨ (0 ≤ a ∧ a ≤ b ∧ b ≤ 109573 ∧ c < a) ∨ (0 ≤ a ∧ a ≤ b ∧ b ≤ 109573 ∧ a ≤ c ∧ b < c) := by omega
    clear hin
    rcases hc with h0 | ⟨h0, h1⟩ | ⟨h0, h1, h2⟩ | ⟨h0, h1, h2, h3⟩ | ⟨h0, h1, h2, h3, h4⟩
    all_goals
      go_enter Tryd.func12, Tryd.ntmps12
      go_wp2_with (go_at_call 30; refine (awake07_any _ (hM.kept hK0) (hP.kept hK0)).mono ?_; rintro e w' ⟨rfl, hk⟩)
      go_ret
      exact ⟨rfl, hK0.trans hk⟩

set_option maxRecDepth 100000 in
set_option maxHeartbeats 4000000 in
theorem lawMRanges (date m a b : Int) (w : World) (hM : Mon w) (hP : Pow w) :
    Calls Tryd.prog 8 #[.int .i64 date, .int .i64 m, .agg #[.int .i64 a, .int .i64 b]] w (LawPost w) := by
  unfold LawPost
  have hK0 := (Kept.refl w).alloc (.cells #[.int .i64 a, .int .i64 b] 35)
  obtain ⟨⟨r1, r2, r3⟩, hr⟩ : ∃ p, rgS m = p := ⟨_, rfl⟩
  have HR := Lib.hid hr
  clear hr
  go_enter Tryd.func8, Tryd.ntmps8
  go_wp2_with fail
  refine (mrange_any _ _ (hM.kept hK0)).mono ?_
  rintro e w1 ⟨rfl, k1⟩
  rw [HR.out]
  go_wp2_with fail
  refine (rmrange_any _ _).mono ?_
  rintro e w2 ⟨rfl, k2⟩
  rw [HR.out]
  have B0 := (k1.blk1.alloc (.cells #[.int .i64 r1, .int .i64 r2] 35)).kept k2 |>.alloc (.cells #[.int .i64 r1, .int .i64 r2] 35)
  have B1 := ((Blk.new w1 35 #[.int .i64 r1, .int .i64 r2]).kept k2).alloc (.cells #[.int .i64 r1, .int .i64 r2] 35)
  have B2 := Blk.new w2 35 #[.int .i64 r1, .int .i64 r2]
  have hK := ((((hK0.trans k1).alloc (.cells #[.int .i64 r1, .int .i64 r2] 35)).trans k2).alloc (.cells #[.int .i64 r1, .int .i64 r2] 35))
  have q0 := KW.cell B0.lt (B0.cell 0)
  have q1 := KW.cell B0.lt (B0.cell 1)
  have q2 := KW.cell B1.lt (B1.cell 0)
  have q3 := KW.cell B1.lt (B1.cell 1)
  have q4 := KW.cell B2.lt (B2.cell 0)
  have q5 := KW.cell B2.lt (B2.cell 1)
  have hMx := fun x : KW ((w2.alloc (.cells #[.int .i64 r1, .int .i64 r2] 35))) => (hM.kept hK).kept x.h
  have hPx := fun x : KW ((w2.alloc (.cells #[.int .i64 r1, .int .i64 r2] 35))) => (hP.kept hK).kept x.h
  go_wp2_with fail
  refine wp_region_kept (by kernel_rfl) (by kernel_rfl) ?_
  repeat (go_big_quiet_step (first
    | (go_at_call 24; exact KW.pure (mfromDate_any _ _ (hMx _)))
    | (go_at_call 25; exact KW.pure (rmfromDate_any _ _))
    | (go_at_call 26; exact KW.pure (mdays_any _ _ (hMx _)))
    | (go_at_call 27; exact KW.pure (rmdays_any _ _))
    | (go_at_call 28; exact KW.call (overlap_any _ _ _ _ (hMx _)))
    | (go_at_call 29; exact KW.call (roverlap_any _ _ _ _))
    | (go_at_call 30; exact KW.call (awake07_any _ (hMx _) (hPx _)))))
  refine wpQuiet_nil ?_
  rintro _ ⟨⟨wx, hx⟩, rfl⟩
  clear q0 q1 q2 q3 q4 q5 hMx hPx
  go_wp2_with fail
  go_ret
  exact ⟨rfl, hK.trans hx⟩
end Go.Proofs.YtmlkgfacenajnaaDoor
