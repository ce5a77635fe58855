/- What package value, and its reference, compute: bounds, valid values. -/
import Derived.Test.YtemejaomfbhldaaGreatDoorVal
namespace Go.Proofs.YtemejaomfbhldaaGreatDoor
open Go.RowKit

set_option maxRecDepth 100000 in
set_option maxHeartbeats 4000000 in
theorem bounds_any (k e : Int) (v : Value) (ms : List (List ByteArray)) (w : World) (hE : Enums w v ms) :
    Calls Tryz.prog 55 #[.agg #[.int .i64 k, .int .i64 e], v] w fun r w' => r = .returned (.tuple #[.int .i64 (bndS k e ms).1, .int .i64 (bndS k e ms).2]) ∧ Kept w w' := by
  have hE1 := fun o => hE.kept ((Kept.refl w).alloc o)
  have hT := Lib.hid (fun w h => vtype_any k e v ms w h)
  cases hv : vtB k e ms
  · have HR := Lib.hid (show bndS k e ms = (0, -1) by rw [bndS, hv]; rfl)
    rw [hv] at hT
    clear hv
    go_enter Tryz.func55, Tryz.ntmps55
    go_wp2_with (go_at_call 61; refine (hT.out _ (hE1 _)).mono ?_; rintro r w1 ⟨rfl, hk⟩)
    go_ret2
    rw [HR.out]
    exact ⟨rfl, ((Kept.refl _).alloc _).trans hk⟩
  · have HR := Lib.hid (show bndS k e ms = bndV k e ms by rw [bndS, hv]; rfl)
    rw [hv] at hT
    have hc := vt_true hv
    clear hv
    rcases hc with ⟨hk, rfl⟩ | ⟨rfl, j, rfl, hj⟩
    · rcases hk with rfl | rfl | rfl | rfl | rfl
      all_goals
        go_enter Tryz.func55, Tryz.ntmps55
        go_wp2_with (go_at_call 61; refine (hT.out _ (hE1 _)).mono ?_; rintro r w1 ⟨rfl, hk⟩; have B := hk.blk1; have c0 := B.cell 0)
        go_ret2
        rw [HR.out]
        exact ⟨rfl, ((Kept.refl _).alloc _).trans hk⟩
    · obtain ⟨b, off, cap, n, B2, c2, l, hl, hn, hn9, rfl, hb, hcl, _⟩ := hE.at_ hj
      have hm := hE
      obtain ⟨_, _, _, hm, _⟩ := hm
      have HV := Lib.hid (show bndV 6 (j : Int) ms = (0, (n : Int) - 1) by
        show (0, ((memS (j : Int) ms).length : Int) - 1) = _
        rw [memS, Int.toNat_natCast, hl, ← hn]; rfl)
      clear hl hn
      go_enter Tryz.func55, Tryz.ntmps55
      go_wp2_with (go_at_call 61; refine (hT.out _ (hE1 _)).mono ?_; rintro r w1 ⟨rfl, hk⟩; have B := hk.blk1; have c0 := B.cell 0)
      have c1 := KW.cell B.lt (B.cell 1)
      have hkl := KW.cell (Nat.lt_of_lt_of_le hb (((Kept.refl w).alloc _).trans hk).size) ((((Kept.refl w).alloc _).trans hk).cell (p := ⟨b, off + j * 2 + 1, none⟩) hb hcl)
      have hji : (j : Int) < ms.length := by omega
      refine wp_region_kept (by kernel_rfl) (by kernel_rfl) ?_
      repeat (go_big_quiet_step (fail))
      refine wpQuiet_nil ?_
      rintro _ ⟨⟨wx, hx2⟩, rfl⟩
      go_wp2_with fail
      go_ret2
      rw [HR.out, HV.out]
      exact ⟨rfl, (((Kept.refl _).alloc _).trans hk).trans hx2⟩

set_option maxRecDepth 100000 in
set_option maxHeartbeats 4000000 in
theorem rbounds_any (k e : Int) (v : Value) (ms : List (List ByteArray)) (w : World) (hE : Enums w v ms) :
    Calls Tryz.prog 85 #[.agg #[.int .i64 k, .int .i64 e], v] w fun r w' => r = .returned (.tuple #[.int .i64 (bndS k e ms).1, .int .i64 (bndS k e ms).2]) ∧ Kept w w' := by
  have hE1 := fun o => hE.kept ((Kept.refl w).alloc o)
  have hT := Lib.hid (fun w h => rvtype_any k e v ms w h)
  cases hv : vtB k e ms
  · have HR := Lib.hid (show bndS k e ms = (0, -1) by rw [bndS, hv]; rfl)
    rw [hv] at hT
    clear hv
    go_enter Tryz.func85, Tryz.ntmps85
    go_wp2_with (go_at_call 69; refine (hT.out _ (hE1 _)).mono ?_; rintro r w1 ⟨rfl, hk⟩)
    go_ret2
    rw [HR.out]
    exact ⟨rfl, ((Kept.refl _).alloc _).trans hk⟩
  · have HR := Lib.hid (show bndS k e ms = bndV k e ms by rw [bndS, hv]; rfl)
    rw [hv] at hT
    have hc := vt_true hv
    clear hv
    rcases hc with ⟨hk, rfl⟩ | ⟨rfl, j, rfl, hj⟩
    · rcases hk with rfl | rfl | rfl | rfl | rfl
      all_goals
        go_enter Tryz.func85, Tryz.ntmps85
        go_wp2_with (go_at_call 69; refine (hT.out _ (hE1 _)).mono ?_; rintro r w1 ⟨rfl, hk⟩; have B := hk.blk1; have c0 := B.cell 0)
        go_ret2
        rw [HR.out]
        exact ⟨rfl, ((Kept.refl _).alloc _).trans hk⟩
    · obtain ⟨b, off, cap, n, B2, c2, l, hl, hn, hn9, rfl, hb, hcl, _⟩ := hE.at_ hj
      have hm := hE
      obtain ⟨_, _, _, hm, _⟩ := hm
      have HV := Lib.hid (show bndV 6 (j : Int) ms = (0, (n : Int) - 1) by
        show (0, ((memS (j : Int) ms).length : Int) - 1) = _
        rw [memS, Int.toNat_natCast, hl, ← hn]; rfl)
      clear hl hn
      go_enter Tryz.func85, Tryz.ntmps85
      go_wp2_with (go_at_call 69; refine (hT.out _ (hE1 _)).mono ?_; rintro r w1 ⟨rfl, hk⟩; have B := hk.blk1; have c0 := B.cell 0)
      have c1 := KW.cell B.lt (B.cell 1)
      have hkl := KW.cell (Nat.lt_of_lt_of_le hb (((Kept.refl w).alloc _).trans hk).size) ((((Kept.refl w).alloc _).trans hk).cell (p := ⟨b, off + j * 2 + 1, none⟩) hb hcl)
      have hji : (j : Int) < ms.length := by omega
      refine wp_region_kept (by kernel_rfl) (by kernel_rfl) ?_
      repeat (go_big_quiet_step (fail))
      refine wpQuiet_nil ?_
      rintro _ ⟨⟨wx, hx2⟩, rfl⟩
      go_wp2_with fail
      go_ret2
      rw [HR.out, HV.out]
      exact ⟨rfl, (((Kept.refl _).alloc _).trans hk).trans hx2⟩

set_option maxRecDepth 100000 in
set_option maxHeartbeats 4000000 in
theorem within_any (n k e : Int) (v : Value) (ms : List (List ByteArray)) (w : World) (hE : Enums w v ms) :
    Calls Tryz.prog 62 #[.int .i64 n, .agg #[.int .i64 k, .int .i64 e], v] w fun r w' => r = .returned (.bool (inB n k e ms)) ∧ Kept w w' := by
  have hE1 := fun o => hE.kept ((Kept.refl w).alloc o)
  have hT := Lib.hid (fun w h => bounds_any k e v ms w h)
  unfold inB
  generalize bndS k e ms = r at *
  obtain ⟨lo, hi⟩ := r
  dsimp only at hT ⊢
  by_cases h1 : lo ≤ n
  · by_cases h2 : n ≤ hi
    · have HR := Lib.hid (show (decide (lo ≤ n) && decide (n ≤ hi)) = true by rw [decide_eq_true h1, decide_eq_true h2]; rfl)
      go_enter Tryz.func62, Tryz.ntmps62
      go_wp2_with (go_at_call 55; refine (hT.out _ (hE1 _)).mono ?_; rintro r w1 ⟨rfl, hk⟩)
      go_ret
      rw [HR.out]
      exact ⟨rfl, ((Kept.refl _).alloc _).trans hk⟩
    · have HR := Lib.hid (show (decide (lo ≤ n) && decide (n ≤ hi)) = false by rw [decide_eq_true h1, decide_eq_false h2]; rfl)
      have h3 := decide_eq_false h2
      go_enter Tryz.func62, Tryz.ntmps62
      go_wp2_with (go_at_call 55; refine (hT.out _ (hE1 _)).mono ?_; rintro r w1 ⟨rfl, hk⟩)
      go_ret
      rw [HR.out]
      exact ⟨rfl, ((Kept.refl _).alloc _).trans hk⟩
  · have HR := Lib.hid (show (decide (lo ≤ n) && decide (n ≤ hi)) = false by rw [decide_eq_false h1]; rfl)
    go_enter Tryz.func62, Tryz.ntmps62
    go_wp2_with (go_at_call 55; refine (hT.out _ (hE1 _)).mono ?_; rintro r w1 ⟨rfl, hk⟩)
    go_ret
    rw [HR.out]
    exact ⟨rfl, ((Kept.refl _).alloc _).trans hk⟩

set_option maxRecDepth 100000 in
set_option maxHeartbeats 4000000 in
theorem rin_any (n k e : Int) (v : Value) (ms : List (List ByteArray)) (w : World) (hE : Enums w v ms) :
    Calls Tryz.prog 65 #[.int .i64 n, .agg #[.int .i64 k, .int .i64 e], v] w fun r w' => r = .returned (.bool (inB n k e ms)) ∧ Kept w w' := by
  have hE1 := fun o => hE.kept ((Kept.refl w).alloc o)
  have hT := Lib.hid (fun w h => rbounds_any k e v ms w h)
  unfold inB
  generalize bndS k e ms = r at *
  obtain ⟨lo, hi⟩ := r
  dsimp only at hT ⊢
  by_cases h1 : lo ≤ n
  · by_cases h2 : n ≤ hi
    · have HR := Lib.hid (show (decide (lo ≤ n) && decide (n ≤ hi)) = true by rw [decide_eq_true h1, decide_eq_true h2]; rfl)
      go_enter Tryz.func65, Tryz.ntmps65
      go_wp2_with (go_at_call 85; refine (hT.out _ (hE1 _)).mono ?_; rintro r w1 ⟨rfl, hk⟩)
      go_ret
      rw [HR.out]
      exact ⟨rfl, ((Kept.refl _).alloc _).trans hk⟩
    · have HR := Lib.hid (show (decide (lo ≤ n) && decide (n ≤ hi)) = false by rw [decide_eq_true h1, decide_eq_false h2]; rfl)
      have h3 := decide_eq_false h2
      go_enter Tryz.func65, Tryz.ntmps65
      go_wp2_with (go_at_call 85; refine (hT.out _ (hE1 _)).mono ?_; rintro r w1 ⟨rfl, hk⟩)
      go_ret
      rw [HR.out]
      exact ⟨rfl, ((Kept.refl _).alloc _).trans hk⟩
  · have HR := Lib.hid (show (decide (lo ≤ n) && decide (n ≤ hi)) = false by rw [decide_eq_false h1]; rfl)
    go_enter Tryz.func65, Tryz.ntmps65
    go_wp2_with (go_at_call 85; refine (hT.out _ (hE1 _)).mono ?_; rintro r w1 ⟨rfl, hk⟩)
    go_ret
    rw [HR.out]
    exact ⟨rfl, ((Kept.refl _).alloc _).trans hk⟩
end Go.Proofs.YtemejaomfbhldaaGreatDoor
