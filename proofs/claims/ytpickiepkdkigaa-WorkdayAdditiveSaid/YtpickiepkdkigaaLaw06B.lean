/- The walks of the five laws of the working days: each returns true and leaves old memory alone. -/
import Derived.Test.YtpickiepkdkigaaLaw06A
import Derived.Test.YtpickiepkdkigaaFrame
namespace Go.Proofs.Ytpickiepkdkigaa
open Go.RowKit

section
variable (wk : Int) (A : Option Addr) (n c : Nat) (hs : List Int) (w : World) (hr : Ints w A n hs)
include hr

set_option maxHeartbeats 1000000 in
theorem lawNext (d : Int) :
    Calls Try.prog 3 #[.agg #[.int .i64 wk, .slice A n c], .int .i64 d] w (LawPost w) := by
  by_cases hn : n ≤ 100
  · obtain ⟨⟨a, b⟩, hnx⟩ : ∃ p, nextS wk hs d = p := ⟨_, rfl⟩
    have HNX := Lib.hid hnx
    clear hnx
    go_enter Try.func3, Try.ntmps3
    go_wp2_with fail
    refine (next_is (hr.alloc _) hn HNX.out).mono ?_
    rintro e w1 ⟨rfl, k1⟩
    have hbox := k1.cells
    go_wp2_with fail
    refine (rnext_is ((hr.alloc _).kept k1) hn HNX.out).mono ?_
    rintro e w2 ⟨rfl, k2⟩
    clear hbox
    have hK : Kept _ w2 := k1.trans k2
    have c0 : w2.cell? ⟨w.heap.size, 0, none⟩ = some (.int .i64 wk) := hK.boxes1.1 0
    have c1 : w2.cell? ⟨w.heap.size, 1, none⟩ = some (.slice A n c) := hK.boxes1.1 1
    have c3 : w.heap.size < w2.heap.size := hK.boxes1.2
    have q0 := KW.cell c3 c0
    have q1 := KW.cell c3 c1
    have hri := (hr.alloc (.cells #[.int .i64 wk, .slice A n c] 24)).kept hK
    clear c0 c1
    go_wp2_with fail
    obtain ⟨vv, hvv⟩ : ∃ v, vcalB wk hs = v := ⟨_, rfl⟩
    obtain ⟨iv, hiv⟩ : ∃ v, isWorkB wk hs d = v := ⟨_, rfl⟩
    have HVV := Lib.hid hvv
    have HIV := Lib.hid hiv
    clear hvv hiv
    refine wp_region_kept (by kernel_rfl) (by kernel_rfl) ?_
    repeat (go_big_quiet_step (first | (go_at_call 15; exact KW.call (wvalid_is (hri.kept (KW.h _)) hn HVV.out)) | (go_at_call 16; exact KW.call (rwvalid_is (hri.kept (KW.h _)) hn HVV.out)) | (go_at_call 17; exact KW.call (isWork_is (hri.kept (KW.h _)) hn HIV.out)) | (go_at_call 18; exact KW.call (risWork_is (hri.kept (KW.h _)) hn HIV.out)) | (go_at_call 12; exact KW.call (awake06_any _))))
    refine wpQuiet_nil ?_
    rintro _ ⟨⟨wx, hx⟩, rfl⟩
    go_wp2_with fail
    go_ret
    exact ⟨rfl, ((Kept.refl _).alloc _).trans (hK.trans hx)⟩
  · go_enter Try.func3, Try.ntmps3
    go_wp2_with (go_at_call 12; refine (awake06_any _).mono ?_; rintro e w1 ⟨rfl, k1⟩)
    go_ret
    exact ⟨rfl, ((Kept.refl _).alloc _).trans k1⟩

set_option maxHeartbeats 1000000 in
theorem lawAdd (d k : Int) :
    Calls Try.prog 4 #[.agg #[.int .i64 wk, .slice A n c], .int .i64 d, .int .i64 k] w (LawPost w) := by
  by_cases hn : n ≤ 100
  · obtain ⟨⟨a, b⟩, hnx⟩ : ∃ p, addS wk hs d k = p := ⟨_, rfl⟩
    have HNX := Lib.hid hnx
    clear hnx
    go_enter Try.func4, Try.ntmps4
    go_wp2_with fail
    refine (add_is (hr.alloc _) hn HNX.out).mono ?_
    rintro e w1 ⟨rfl, k1⟩
    have hbox := k1.cells
    go_wp2_with fail
    refine (radd_is ((hr.alloc _).kept k1) hn HNX.out).mono ?_
    rintro e w2 ⟨rfl, k2⟩
    go_wp2_with fail
    refine (awake06_any _).mono ?_
    rintro e w3 ⟨rfl, k3⟩
    go_wp2_with fail
    go_ret
    exact ⟨rfl, (((Kept.refl _).alloc _).trans (k1.trans k2)).trans k3⟩
  · go_enter Try.func4, Try.ntmps4
    go_wp2_with (go_at_call 12; refine (awake06_any _).mono ?_; rintro e w1 ⟨rfl, k1⟩)
    go_ret
    exact ⟨rfl, ((Kept.refl _).alloc _).trans k1⟩

set_option maxHeartbeats 1000000 in
theorem lawRange (a b : Int) :
    Calls Try.prog 5 #[.agg #[.int .i64 wk, .slice A n c], .agg #[.int .i64 a, .int .i64 b]] w (LawPost w) := by
  by_cases hn : n ≤ 100
  · obtain ⟨v, hnx⟩ : ∃ p, countS wk hs a b = p := ⟨_, rfl⟩
    have HNX := Lib.hid hnx
    clear hnx
    go_enter Try.func5, Try.ntmps5
    have q0 := KW.cell (w := (w.alloc (.cells #[.int .i64 wk, .slice A n c] 24)).alloc (.cells #[.int .i64 a, .int .i64 b] 34)) (by simp; omega) ((Kept.refl _).boxes2.1 0)
    have q1 := KW.cell (w := (w.alloc (.cells #[.int .i64 wk, .slice A n c] 24)).alloc (.cells #[.int .i64 a, .int .i64 b] 34)) (by simp; omega) ((Kept.refl _).boxes2.1 1)
    have q2 := KW.cell (w := (w.alloc (.cells #[.int .i64 wk, .slice A n c] 24)).alloc (.cells #[.int .i64 a, .int .i64 b] 34)) (by simp) ((Kept.refl _).boxes2.2.1 0)
    have q3 := KW.cell (w := (w.alloc (.cells #[.int .i64 wk, .slice A n c] 24)).alloc (.cells #[.int .i64 a, .int .i64 b] 34)) (by simp) ((Kept.refl _).boxes2.2.1 1)
    go_wp2_with (go_at_call 12; refine (awake06_any _).mono ?_; rintro e w1 ⟨rfl, k1⟩)
    all_goals first
      | (go_ret; exact ⟨rfl, (((Kept.refl _).alloc _).alloc _).trans k1⟩)
      | (refine wp_region_kept (by kernel_rfl) (by kernel_rfl) ?_
         repeat (go_big_quiet_step (first | (go_at_call 21; exact KW.call (count_is (((hr.alloc _).alloc _).kept (KW.h _)) hn HNX.out)) | (go_at_call 22; exact KW.call (rcount_is (((hr.alloc _).alloc _).kept (KW.h _)) hn HNX.out)) | (go_at_call 12; exact KW.call (awake06_any _))))
         refine wpQuiet_nil ?_
         rintro _ ⟨⟨wx, hx⟩, rfl⟩
         go_wp2_with fail
         go_ret
         exact ⟨rfl, (((Kept.refl _).alloc _).alloc _).trans hx⟩)
  · go_enter Try.func5, Try.ntmps5
    go_wp2_with (go_at_call 12; refine (awake06_any _).mono ?_; rintro e w1 ⟨rfl, k1⟩)
    go_ret
    exact ⟨rfl, (((Kept.refl _).alloc _).alloc _).trans k1⟩

set_option maxHeartbeats 1000000 in
theorem lawCount (d k : Int) :
    Calls Try.prog 6 #[.agg #[.int .i64 wk, .slice A n c], .int .i64 d, .int .i64 k] w (LawPost w) := by
  by_cases hn : n ≤ 100
  · obtain ⟨⟨a, b⟩, hnx⟩ : ∃ p, addS wk hs d k = p := ⟨_, rfl⟩
    have HNX := Lib.hid hnx
    by_cases hg : b = 0 ∧ 1 ≤ k
    · obtain ⟨rfl, hk⟩ := hg
      have hlaw := addS_law wk hs d k hk (by rw [hnx])
      rw [hnx] at hlaw
      obtain ⟨l1, l2, l3, _, l5, l6⟩ := hlaw
      have L2 := Lib.hid l2
      have L3 := Lib.hid l3
      have l7 := isDate_iff.1 l5
      clear hnx l2 l3 l5
      go_enter Try.func6, Try.ntmps6
      go_wp2_with fail
      refine (add_is (hr.alloc _) hn HNX.out).mono ?_
      rintro e w1 ⟨rfl, k1⟩
      have hbox := k1.cells
      go_wp2_with fail
      refine (isWork_is ((hr.alloc _).kept k1) hn L2.out).mono ?_
      rintro e w2 ⟨rfl, k2⟩
      clear hbox
      have hbox := (k1.trans k2).cells
      go_wp2_with fail
      refine (count_is (((hr.alloc _).kept k1).kept k2) hn L3.out).mono ?_
      rintro e w3 ⟨rfl, k3⟩
      go_wp2_with fail
      refine (awake06_any _).mono ?_
      rintro e w4 ⟨rfl, k4⟩
      go_wp2_with fail
      go_ret
      exact ⟨rfl, ((((Kept.refl _).alloc _).trans (k1.trans k2)).trans k3).trans k4⟩
    · clear hnx
      cases hb0 : (b == 0)
      · have hb1 : (b != 0) = true := by simpa using hb0
        go_enter Try.func6, Try.ntmps6
        go_wp2_with fail
        refine (add_is (hr.alloc _) hn HNX.out).mono ?_
        rintro e w1 ⟨rfl, k1⟩
        go_wp2_with (go_at_call 12; refine (awake06_any _).mono ?_; rintro e w2 ⟨rfl, k2⟩)
        go_ret
        exact ⟨rfl, ((Kept.refl _).alloc _).trans (k1.trans k2)⟩
      · have hb1 : (b != 0) = false := by simpa using hb0
        have hk : k < 1 := by
          have : b = 0 := by simpa using hb0
          omega
        clear hg
        go_enter Try.func6, Try.ntmps6
        go_wp2_with fail
        refine (add_is (hr.alloc _) hn HNX.out).mono ?_
        rintro e w1 ⟨rfl, k1⟩
        go_wp2_with (go_at_call 12; refine (awake06_any _).mono ?_; rintro e w2 ⟨rfl, k2⟩)
        go_ret
        exact ⟨rfl, ((Kept.refl _).alloc _).trans (k1.trans k2)⟩
  · go_enter Try.func6, Try.ntmps6
    go_wp2_with (go_at_call 12; refine (awake06_any _).mono ?_; rintro e w1 ⟨rfl, k1⟩)
    go_ret
    exact ⟨rfl, ((Kept.refl _).alloc _).trans k1⟩

set_option maxHeartbeats 1000000 in
theorem lawAdditive (a b d : Int) :
    Calls Try.prog 7 #[.agg #[.int .i64 wk, .slice A n c], .int .i64 a, .int .i64 b, .int .i64 d] w (LawPost w) := by
  by_cases hg : n ≤ 100 ∧ 0 ≤ a ∧ a ≤ b ∧ b ≤ d ∧ d ≤ 109573 ∧ d ≤ a + 2000
  · obtain ⟨hn, g0, g1, g2, g3, g4⟩ := hg
    have hadd := countS_add wk hs a b d g0 g1 g2 g3
    have c1 := countS_bd wk hs a b
    have c2 := countS_bd wk hs b d
    obtain ⟨x, hx⟩ : ∃ v, countS wk hs a b = v := ⟨_, rfl⟩
    obtain ⟨y, hy⟩ : ∃ v, countS wk hs b d = v := ⟨_, rfl⟩
    rw [hx, hy] at hadd
    rw [hx] at c1
    rw [hy] at c2
    obtain ⟨p1, p2⟩ := c1
    obtain ⟨p3, p4⟩ := c2
    have HX := Lib.hid hx
    have HY := Lib.hid hy
    have HZ := Lib.hid hadd.symm
    clear hadd hx hy
    obtain ⟨⟨u, v⟩, hnx⟩ : ∃ p, nextS wk hs a = p := ⟨_, rfl⟩
    have hag := nextS_again wk hs a
    rw [hnx] at hag
    have HNX := Lib.hid hnx
    have HAG := Lib.hid hag
    clear hnx hag
    have q0 := KW.cell (w := w.alloc (.cells #[.int .i64 wk, .slice A n c] 24)) (by simp) ((Kept.refl _).boxes1.1 0)
    have q1 := KW.cell (w := w.alloc (.cells #[.int .i64 wk, .slice A n c] 24)) (by simp) ((Kept.refl _).boxes1.1 1)
    have e1 : IntKind.i64.wrap (x + y) = x + y := IntWalk.i64_in _ (by omega)
    cases hv0 : (v == 0)
    all_goals
      go_enter Try.func7, Try.ntmps7
      go_wp2_with fail
      refine wp_region_kept (by kernel_rfl) (by kernel_rfl) ?_
      repeat (go_big_quiet_step (first | (go_at_call 21; exact KW.call (count_is ((hr.alloc _).kept (KW.h _)) hn HX.out)) | (go_at_call 21; exact KW.call (count_is ((hr.alloc _).kept (KW.h _)) hn HY.out)) | (go_at_call 21; exact KW.call (count_is ((hr.alloc _).kept (KW.h _)) hn HZ.out))))
      refine wpQuiet_nil ?_
      rintro _ ⟨⟨wx, k1⟩, rfl⟩
      clear q0 q1 e1
      have hbox := k1.cells
      go_wp2_with fail
      refine (next_is ((hr.alloc _).kept k1) hn HNX.out).mono ?_
      rintro e w2 ⟨rfl, k2⟩
      clear hbox
      have hbox := (k1.trans k2).cells
    · have hv1 : (v != 0) = true := by simpa using hv0
      go_wp2_with fail
      refine (awake06_any _).mono ?_
      rintro e w3 ⟨rfl, k3⟩
      go_wp2_with fail
      go_ret
      exact ⟨rfl, (((Kept.refl _).alloc _).trans (k1.trans k2)).trans k3⟩
    · have hv1 : (v != 0) = false := by simpa using hv0
      have hag := HAG.out (by simpa using hv0)
      obtain ⟨ha1, ha2⟩ := hag
      have HA1 := Lib.hid ha1
      have HA2 := Lib.hid ha2
      clear ha1 ha2
      go_wp2_with fail
      refine (next_is (((hr.alloc _).kept k1).kept k2) hn HA1.out).mono ?_
      rintro e w3 ⟨rfl, k3⟩
      clear hbox
      have hbox := ((k1.trans k2).trans k3).cells
      go_wp2_with fail
      refine (isWork_is ((((hr.alloc _).kept k1).kept k2).kept k3) hn HA2.out).mono ?_
      rintro e w4 ⟨rfl, k4⟩
      go_wp2_with fail
      refine (awake06_any _).mono ?_
      rintro e w5 ⟨rfl, k5⟩
      go_wp2_with fail
      go_ret
      exact ⟨rfl, (((((Kept.refl _).alloc _).trans (k1.trans k2)).trans k3).trans k4).trans k5⟩
  · have hg' : 100 < n ∨ (n ≤ 100 ∧ a < 0) ∨ (n ≤ 100 ∧ 0 ≤ a ∧ b < a) ∨ (n ≤ 100 ∧ 0 ≤ a ∧ a ≤ b ∧ d < b) ∨ (n ≤ 100 ∧ 0 ≤ a ∧ a ≤ b ∧ b ≤ d ∧ 109573 < d) ∨ (n ≤ 100 ∧ 0 ≤ a ∧ a ≤ b ∧ b ≤ d ∧ d ≤ 109573 ∧ a + 2000 < d) := by omega
    clear hg
    rcases hg' with h | ⟨h1, h2⟩ | ⟨h1, h2, h3⟩ | ⟨h1, h2, h3, h4⟩ | ⟨h1, h2, h3, h4, h5⟩ | ⟨h1, h2, h3, h4, h5, h6⟩
    all_goals
      go_enter Try.func7, Try.ntmps7
      go_wp2_with (go_at_call 12; refine (awake06_any _).mono ?_; rintro e w1 ⟨rfl, k1⟩)
      go_ret
      exact ⟨rfl, ((Kept.refl _).alloc _).trans k1⟩
end
end Go.Proofs.Ytpickiepkdkigaa
