/- What Format of package value, and of its reference, computes. -/
import Derived.Test.YtemejaomfbhldaaGreatDoorValC
import Derived.Test.YtemejaomfbhldaaGreatDoorValLaw
import Derived.Test.YtemejaomfbhldaaGreatDoorLaw01A
import Derived.Test.YtemejaomfbhldaaGreatDoorValMath
import Derived.Test.YtemejaomfbhldaaGreatDoorLineMath
import Derived.Test.YtemejaomfbhldaaGreatDoorRecs
import Derived.Test.YtemejaomfbhldaaGreatDoorValB
import Derived.Test.YtemejaomfbhldaaGreatDoorGrew
import Derived.Test.YtemejaomfbhldaaGreatDoorBld
import Derived.Test.YtemejaomfbhldaaGreatDoorBlks
import Derived.Test.YtemejaomfbhldaaGreatDoorShelf
import Derived.Test.YtemejaomfbhldaaGreatDoorStrs
import Derived.Deep.DeepCutAuto
import Derived.Deep.AppendLies
import Derived.Test.YtemejaomfbhldaaGreatDoorLines
import Derived.Test.YtemejaomfbhldaaGreatDoorDateF
namespace Go.Proofs.YtemejaomfbhldaaGreatDoor
open Go.RowKit

theorem fixS_small (n : Int) (p : Int) (h0 : -9223372036854775808 ≤ n) (h1 : n ≤ 9223372036854775807) (hp : p ≤ 9) : (fixS n p).size ≤ 1000000 := by
  have hl := absD_len n h0 h1
  unfold fixS
  split
  · have := numS_size n h0 h1; omega
  · rw [bs_size, fixT, List.length_append, List.length_append, List.length_append, List.length_take, List.length_drop, padD, List.length_append, List.length_replicate, sgn]
    split <;> simp <;> omega
theorem inB_six {n : Int} {j : Nat} {ms : List (List ByteArray)} {l : List ByteArray} (hl : ms[j]? = some l) (hv : vtB 6 j ms = true) : inB n 6 j ms = (decide (0 ≤ n) && decide (n ≤ (l.length : Int) - 1)) := by
  rw [inB, bndS, if_pos hv]
  show (decide (0 ≤ n) && decide (n ≤ ((memS (j : Int) ms).length : Int) - 1)) = _
  rw [memS, Int.toNat_natCast, hl]; rfl
theorem str_ret {a b : ByteArray} {c d : Int} (h : (a, c) = (b, d)) : Ending.returned (.tuple #[.string a, .int .i64 c]) = Ending.returned (.tuple #[.string b, .int .i64 d]) := by
  obtain ⟨rfl, rfl⟩ := Prod.mk.inj h; rfl

set_option maxRecDepth 100000 in
set_option maxHeartbeats 8000000 in
theorem vformat_any (k e n : Int) (v : Value) (ms : List (List ByteArray)) (w : World) (hE : Enums w v ms) (h0 : -9223372036854775808 ≤ n) (h1 : n ≤ 9223372036854775807) (hM : Mon w) (hP : Pow w) :
    Calls Tryz.prog 39 #[.agg #[.int .i64 k, .int .i64 e, .int .i64 n], v] w fun r w' => r = .returned (.tuple #[.string (vfmtS k e n ms).1, .int .i64 (vfmtS k e n ms).2]) ∧ Kept w w' := by
  have hE1 := fun w' (h : Kept w w') => hE.kept h
  have hT := Lib.hid (fun w h => vtype_any k e v ms w h)
  have hI := Lib.hid (fun w h => within_any n k e v ms w h)
  have hF2 := Lib.hid (fun w hP => fmtInt_any n h0 h1 w hP)
  have hF5 := Lib.hid (fun w hM hP => format_any n w hM hP)
  cases hv : vtB k e ms
  · have HR := Lib.hid (show vfmtS k e n ms = (⟨#[]⟩, 8) by rw [vfmtS, hv]; rfl)
    rw [hv] at hT
    clear hv
    go_enter Tryz.func39, Tryz.ntmps39
    go_wp2_with (first
      | (go_at_call 61; refine (hT.out _ (hE1 _ (((Kept.refl _).alloc _).alloc _))).mono ?_; rintro r w1 ⟨rfl, hk⟩; have hK := (((Kept.refl _).alloc _).alloc _).trans hk; have B := hk.blk2.1; have B2 := hk.blk2.2; have c1 := B.cell 2; have c2 := B2.cell 0; have c3 := B2.cell 1; have B2lt := B2.lt; clear hk)
      | (go_at_call 62; refine (hI.out _ (hE1 _ hK)).mono ?_; rintro r w2 ⟨rfl, hk2⟩; have hK := hK.trans hk2; have B := B.kept hk2; have c0 := B.cell 0; have c1 := B.cell 2; clear hk2)
      | (go_at_call 59; refine (hF2.out _ (hP.kept hK)).mono ?_; rintro r w3 ⟨rfl, hk3⟩; have hK := hK.trans hk3)
      | (go_at_call 63; refine (hF3.out _ (hP.kept hK)).mono ?_; rintro r w3 ⟨rfl, hk3⟩; have hK := hK.trans hk3)
      | (go_at_call 17; refine (hF5.out _ (hM.kept hK) (hP.kept hK)).mono ?_; rintro r w3 ⟨rfl, hk3⟩; have hK := hK.trans hk3))
    go_ret2
    rw [HR.out]
    exact ⟨rfl, hK⟩
  cases hi : inB n k e ms
  · have HR := Lib.hid (show vfmtS k e n ms = (⟨#[]⟩, 3) by rw [vfmtS, hv, hi]; rfl)
    rw [hv] at hT
    rw [hi] at hI
    clear hv hi
    go_enter Tryz.func39, Tryz.ntmps39
    go_wp2_with (first
      | (go_at_call 61; refine (hT.out _ (hE1 _ (((Kept.refl _).alloc _).alloc _))).mono ?_; rintro r w1 ⟨rfl, hk⟩; have hK := (((Kept.refl _).alloc _).alloc _).trans hk; have B := hk.blk2.1; have B2 := hk.blk2.2; have c1 := B.cell 2; have c2 := B2.cell 0; have c3 := B2.cell 1; have B2lt := B2.lt; clear hk)
      | (go_at_call 62; refine (hI.out _ (hE1 _ hK)).mono ?_; rintro r w2 ⟨rfl, hk2⟩; have hK := hK.trans hk2; have B := B.kept hk2; have c0 := B.cell 0; have c1 := B.cell 2; clear hk2)
      | (go_at_call 59; refine (hF2.out _ (hP.kept hK)).mono ?_; rintro r w3 ⟨rfl, hk3⟩; have hK := hK.trans hk3)
      | (go_at_call 63; refine (hF3.out _ (hP.kept hK)).mono ?_; rintro r w3 ⟨rfl, hk3⟩; have hK := hK.trans hk3)
      | (go_at_call 17; refine (hF5.out _ (hM.kept hK) (hP.kept hK)).mono ?_; rintro r w3 ⟨rfl, hk3⟩; have hK := hK.trans hk3))
    go_ret2
    rw [HR.out]
    exact ⟨rfl, hK⟩
  have HR := Lib.hid (show vfmtS k e n ms = (vtext k e n ms, 0) by rw [vfmtS, hv, hi]; rfl)
  rw [hv] at hT
  rw [hi] at hI
  rcases vt_true hv with ⟨hk, rfl⟩ | ⟨rfl, j, rfl, hj⟩
  · have hb := (inB_iff hv).1 hi
    clear hv hi
    rcases hk with rfl | rfl | rfl | rfl | rfl
    · obtain ⟨b0, b1⟩ : 0 ≤ n ∧ n ≤ 1 := hb
      obtain rfl | rfl : n = 0 ∨ n = 1 := by omega
      all_goals
        go_enter Tryz.func39, Tryz.ntmps39
        go_wp2_with (first
      | (go_at_call 61; refine (hT.out _ (hE1 _ (((Kept.refl _).alloc _).alloc _))).mono ?_; rintro r w1 ⟨rfl, hk⟩; have hK := (((Kept.refl _).alloc _).alloc _).trans hk; have B := hk.blk2.1; have B2 := hk.blk2.2; have c1 := B.cell 2; have c2 := B2.cell 0; have c3 := B2.cell 1; have B2lt := B2.lt; clear hk)
      | (go_at_call 62; refine (hI.out _ (hE1 _ hK)).mono ?_; rintro r w2 ⟨rfl, hk2⟩; have hK := hK.trans hk2; have B := B.kept hk2; have c0 := B.cell 0; have c1 := B.cell 2; clear hk2)
      | (go_at_call 59; refine (hF2.out _ (hP.kept hK)).mono ?_; rintro r w3 ⟨rfl, hk3⟩; have hK := hK.trans hk3)
      | (go_at_call 63; refine (hF3.out _ (hP.kept hK)).mono ?_; rintro r w3 ⟨rfl, hk3⟩; have hK := hK.trans hk3)
      | (go_at_call 17; refine (hF5.out _ (hM.kept hK) (hP.kept hK)).mono ?_; rintro r w3 ⟨rfl, hk3⟩; have hK := hK.trans hk3))
        go_ret2
        rw [HR.out]
        exact ⟨rfl, hK⟩
    · go_enter Tryz.func39, Tryz.ntmps39
      go_wp2_with (first
      | (go_at_call 61; refine (hT.out _ (hE1 _ (((Kept.refl _).alloc _).alloc _))).mono ?_; rintro r w1 ⟨rfl, hk⟩; have hK := (((Kept.refl _).alloc _).alloc _).trans hk; have B := hk.blk2.1; have B2 := hk.blk2.2; have c1 := B.cell 2; have c2 := B2.cell 0; have c3 := B2.cell 1; have B2lt := B2.lt; clear hk)
      | (go_at_call 62; refine (hI.out _ (hE1 _ hK)).mono ?_; rintro r w2 ⟨rfl, hk2⟩; have hK := hK.trans hk2; have B := B.kept hk2; have c0 := B.cell 0; have c1 := B.cell 2; clear hk2)
      | (go_at_call 59; refine (hF2.out _ (hP.kept hK)).mono ?_; rintro r w3 ⟨rfl, hk3⟩; have hK := hK.trans hk3)
      | (go_at_call 63; refine (hF3.out _ (hP.kept hK)).mono ?_; rintro r w3 ⟨rfl, hk3⟩; have hK := hK.trans hk3)
      | (go_at_call 17; refine (hF5.out _ (hM.kept hK) (hP.kept hK)).mono ?_; rintro r w3 ⟨rfl, hk3⟩; have hK := hK.trans hk3))
      go_ret2
      rw [HR.out]
      exact ⟨rfl, hK⟩
    · have hF3 : Hid (∀ w, Pow w → Calls Tryz.prog 63 #[.int .i64 n, .int .i64 2] w fun e w' => e = .returned (.string (fixS n 2)) ∧ Kept w w') := Lib.hid (fun w hP => formatFixed_any n 2 h0 h1 w hP)
      go_enter Tryz.func39, Tryz.ntmps39
      go_wp2_with (first
      | (go_at_call 61; refine (hT.out _ (hE1 _ (((Kept.refl _).alloc _).alloc _))).mono ?_; rintro r w1 ⟨rfl, hk⟩; have hK := (((Kept.refl _).alloc _).alloc _).trans hk; have B := hk.blk2.1; have B2 := hk.blk2.2; have c1 := B.cell 2; have c2 := B2.cell 0; have c3 := B2.cell 1; have B2lt := B2.lt; clear hk)
      | (go_at_call 62; refine (hI.out _ (hE1 _ hK)).mono ?_; rintro r w2 ⟨rfl, hk2⟩; have hK := hK.trans hk2; have B := B.kept hk2; have c0 := B.cell 0; have c1 := B.cell 2; clear hk2)
      | (go_at_call 59; refine (hF2.out _ (hP.kept hK)).mono ?_; rintro r w3 ⟨rfl, hk3⟩; have hK := hK.trans hk3)
      | (go_at_call 63; refine (hF3.out _ (hP.kept hK)).mono ?_; rintro r w3 ⟨rfl, hk3⟩; have hK := hK.trans hk3)
      | (go_at_call 17; refine (hF5.out _ (hM.kept hK) (hP.kept hK)).mono ?_; rintro r w3 ⟨rfl, hk3⟩; have hK := hK.trans hk3))
      go_ret2
      rw [HR.out]
      exact ⟨rfl, hK⟩
    · have hF3 : Hid (∀ w, Pow w → Calls Tryz.prog 63 #[.int .i64 n, .int .i64 4] w fun e w' => e = .returned (.string (fixS n 4)) ∧ Kept w w') := Lib.hid (fun w hP => formatFixed_any n 4 h0 h1 w hP)
      have hz := fixS_small n 4 h0 h1 (by decide)
      have HT := Lib.hid (show vtext 4 0 n ms = fixS n 4 ++ ⟨#[37]⟩ from rfl)
      generalize fixS n 4 = X at *
      have hz2 : ¬ (9223372036854775807 < X.size + (⟨#[37]⟩ : ByteArray).size) := by show ¬ (_ < X.size + 1); omega
      go_enter Tryz.func39, Tryz.ntmps39
      go_wp2_with (first
      | (go_at_call 61; refine (hT.out _ (hE1 _ (((Kept.refl _).alloc _).alloc _))).mono ?_; rintro r w1 ⟨rfl, hk⟩; have hK := (((Kept.refl _).alloc _).alloc _).trans hk; have B := hk.blk2.1; have B2 := hk.blk2.2; have c1 := B.cell 2; have c2 := B2.cell 0; have c3 := B2.cell 1; have B2lt := B2.lt; clear hk)
      | (go_at_call 62; refine (hI.out _ (hE1 _ hK)).mono ?_; rintro r w2 ⟨rfl, hk2⟩; have hK := hK.trans hk2; have B := B.kept hk2; have c0 := B.cell 0; have c1 := B.cell 2; clear hk2)
      | (go_at_call 59; refine (hF2.out _ (hP.kept hK)).mono ?_; rintro r w3 ⟨rfl, hk3⟩; have hK := hK.trans hk3)
      | (go_at_call 63; refine (hF3.out _ (hP.kept hK)).mono ?_; rintro r w3 ⟨rfl, hk3⟩; have hK := hK.trans hk3)
      | (go_at_call 17; refine (hF5.out _ (hM.kept hK) (hP.kept hK)).mono ?_; rintro r w3 ⟨rfl, hk3⟩; have hK := hK.trans hk3))
      go_ret2
      rw [HR.out, HT.out]
      exact ⟨rfl, hK⟩
    · go_enter Tryz.func39, Tryz.ntmps39
      go_wp2_with (first
      | (go_at_call 61; refine (hT.out _ (hE1 _ (((Kept.refl _).alloc _).alloc _))).mono ?_; rintro r w1 ⟨rfl, hk⟩; have hK := (((Kept.refl _).alloc _).alloc _).trans hk; have B := hk.blk2.1; have B2 := hk.blk2.2; have c1 := B.cell 2; have c2 := B2.cell 0; have c3 := B2.cell 1; have B2lt := B2.lt; clear hk)
      | (go_at_call 62; refine (hI.out _ (hE1 _ hK)).mono ?_; rintro r w2 ⟨rfl, hk2⟩; have hK := hK.trans hk2; have B := B.kept hk2; have c0 := B.cell 0; have c1 := B.cell 2; clear hk2)
      | (go_at_call 59; refine (hF2.out _ (hP.kept hK)).mono ?_; rintro r w3 ⟨rfl, hk3⟩; have hK := hK.trans hk3)
      | (go_at_call 63; refine (hF3.out _ (hP.kept hK)).mono ?_; rintro r w3 ⟨rfl, hk3⟩; have hK := hK.trans hk3)
      | (go_at_call 17; refine (hF5.out _ (hM.kept hK) (hP.kept hK)).mono ?_; rintro r w3 ⟨rfl, hk3⟩; have hK := hK.trans hk3))
      go_ret2
      rw [HR.out]
      exact ⟨rfl, hK⟩
  · obtain ⟨b, off, cap, N, B2, cc, l, hl, hN, hn9, rfl, hb, hcl, hcm⟩ := hE.at_ hj
    have hm := hE
    obtain ⟨_, _, _, hm, _⟩ := hm
    have hb2 := (inB_iff hv).1 hi
    have HT := Lib.hid (show vtext 6 (j : Int) n ms = l[n.toNat]?.getD ⟨#[]⟩ by
      show (memS (j : Int) ms)[n.toNat]?.getD ⟨#[]⟩ = _
      rw [memS, Int.toNat_natCast, hl]; rfl)
    obtain ⟨i, rfl⟩ : ∃ i : Nat, n = i := ⟨n.toNat, by have : 0 ≤ n := hb2.1; omega⟩
    rw [Int.toNat_natCast] at HT
    have hiN : i < N := by
      have h2 : (i : Int) ≤ ((memS (j : Int) ms).length : Int) - 1 := hb2.2
      rw [memS, Int.toNat_natCast, hl, Option.getD_some, hN] at h2
      omega
    obtain ⟨b3, off3, rfl, hb3, hc3⟩ := hcm (by omega)
    have hc4 := hc3 i hiN
    clear hc3 hcm hb2 hv hi hl hN
    generalize l[i]?.getD ⟨#[]⟩ = Z at *
    have hji : (j : Int) < ms.length := by omega
    have hiI : (i : Int) < N := by omega
    go_enter Tryz.func39, Tryz.ntmps39
    go_wp2_with (first
      | (go_at_call 61; refine (hT.out _ (hE1 _ (((Kept.refl _).alloc _).alloc _))).mono ?_; rintro r w1 ⟨rfl, hk⟩; have hK := (((Kept.refl _).alloc _).alloc _).trans hk; have B := hk.blk2.1; have B2 := hk.blk2.2; have c1 := B.cell 2; have c2 := B2.cell 0; have c3 := B2.cell 1; have B2lt := B2.lt; clear hk)
      | (go_at_call 62; refine (hI.out _ (hE1 _ hK)).mono ?_; rintro r w2 ⟨rfl, hk2⟩; have hK := hK.trans hk2; have B := B.kept hk2; have c0 := B.cell 0; have c1 := B.cell 2; clear hk2)
      | (go_at_call 59; refine (hF2.out _ (hP.kept hK)).mono ?_; rintro r w3 ⟨rfl, hk3⟩; have hK := hK.trans hk3)
      | (go_at_call 63; refine (hF3.out _ (hP.kept hK)).mono ?_; rintro r w3 ⟨rfl, hk3⟩; have hK := hK.trans hk3)
      | (go_at_call 17; refine (hF5.out _ (hM.kept hK) (hP.kept hK)).mono ?_; rintro r w3 ⟨rfl, hk3⟩; have hK := hK.trans hk3))
    have d1 := KW.cell B.lt (B.cell 1)
    have d2 := KW.cell B.lt (B.cell 2)
    have hkl := KW.cell (Nat.lt_of_lt_of_le hb hK.size) (hK.cell (p := ⟨b, off + j * 2 + 1, none⟩) hb hcl)
    have hkm := KW.cell (Nat.lt_of_lt_of_le hb3 hK.size) (hK.cell (p := ⟨b3, off3 + i, none⟩) hb3 hc4)
    refine wp_region_kept (by kernel_rfl) (by kernel_rfl) ?_
    repeat (go_big_quiet_step (fail))
    refine wpQuiet_nil ?_
    rintro _ ⟨⟨wx, hx2⟩, rfl⟩
    go_wp2_with fail
    go_ret2
    rw [HR.out, HT.out]
    exact ⟨rfl, hK.trans hx2⟩

set_option maxRecDepth 100000 in
set_option maxHeartbeats 8000000 in
theorem rvformat_any (k e n : Int) (v : Value) (ms : List (List ByteArray)) (w : World) (hE : Enums w v ms) (h0 : -9223372036854775808 ≤ n) (h1 : n ≤ 9223372036854775807) :
    Calls Tryz.prog 44 #[.agg #[.int .i64 k, .int .i64 e, .int .i64 n], v] w fun r w' => r = .returned (.tuple #[.string (vfmtS k e n ms).1, .int .i64 (vfmtS k e n ms).2]) ∧ Kept w w' := by
  have hE1 := fun w' (h : Kept w w') => hE.kept h
  have hT := Lib.hid (fun w h => rvtype_any k e v ms w h)
  have hI := Lib.hid (fun w h => rvalid_any k e n v ms w h)
  have hF2 := Lib.hid (fun w => rfmtInt_any n h0 h1 w)
  have hF5 := Lib.hid (fun w => rformat_any n w)
  cases hv : vtB k e ms
  · have HR := Lib.hid (show vfmtS k e n ms = (⟨#[]⟩, 8) by rw [vfmtS, hv]; rfl)
    rw [hv] at hT
    clear hv hI
    go_enter Tryz.func44, Tryz.ntmps44
    go_wp2_with (first
      | (go_at_call 64; refine (rtype_any _ _ _ _).mono ?_; rintro r w0 ⟨rfl, hk⟩; have hK := ((Kept.refl _).alloc _).trans hk; have B := hk.blk1; have c0 := B.cell 0; have c1 := B.cell 1; have c2 := B.cell 2; clear hk)
      | (go_at_call 69; refine (hT.out _ (hE1 _ hK)).mono ?_; rintro r w1 ⟨rfl, hk⟩; have hK := hK.trans hk; have B := B.kept hk; have c0 := B.cell 0; have c1 := B.cell 1; have c2 := B.cell 2; clear hk)
      | (go_at_call 70; refine (hI.out _ (hE1 _ hK)).mono ?_; rintro r w2 ⟨rfl, hk2⟩; have hK := hK.trans hk2; have B := B.kept hk2; have c0 := B.cell 0; have c1 := B.cell 2; clear hk2)
      | (go_at_call 68; refine (hF2.out _).mono ?_; rintro r w3 ⟨rfl, hk3⟩; have hK := hK.trans hk3)
      | (go_at_call 71; refine (hF3.out _).mono ?_; rintro r w3 ⟨rfl, hk3⟩; have hK := hK.trans hk3)
      | (go_at_call 21; refine (hF5.out _).mono ?_; rintro r w3 ⟨rfl, hk3⟩; have hK := hK.trans hk3))
    go_ret2
    rw [HR.out]
    exact ⟨rfl, hK⟩
  cases hi : inB n k e ms
  · have HR := Lib.hid (show vfmtS k e n ms = (⟨#[]⟩, 3) by rw [vfmtS, hv, hi]; rfl)
    rw [hv] at hT
    rw [show validB k e n ms = false by rw [validB, hv, hi]; rfl] at hI
    clear hv hi
    go_enter Tryz.func44, Tryz.ntmps44
    go_wp2_with (first
      | (go_at_call 64; refine (rtype_any _ _ _ _).mono ?_; rintro r w0 ⟨rfl, hk⟩; have hK := ((Kept.refl _).alloc _).trans hk; have B := hk.blk1; have c0 := B.cell 0; have c1 := B.cell 1; have c2 := B.cell 2; clear hk)
      | (go_at_call 69; refine (hT.out _ (hE1 _ hK)).mono ?_; rintro r w1 ⟨rfl, hk⟩; have hK := hK.trans hk; have B := B.kept hk; have c0 := B.cell 0; have c1 := B.cell 1; have c2 := B.cell 2; clear hk)
      | (go_at_call 70; refine (hI.out _ (hE1 _ hK)).mono ?_; rintro r w2 ⟨rfl, hk2⟩; have hK := hK.trans hk2; have B := B.kept hk2; have c0 := B.cell 0; have c1 := B.cell 2; clear hk2)
      | (go_at_call 68; refine (hF2.out _).mono ?_; rintro r w3 ⟨rfl, hk3⟩; have hK := hK.trans hk3)
      | (go_at_call 71; refine (hF3.out _).mono ?_; rintro r w3 ⟨rfl, hk3⟩; have hK := hK.trans hk3)
      | (go_at_call 21; refine (hF5.out _).mono ?_; rintro r w3 ⟨rfl, hk3⟩; have hK := hK.trans hk3))
    go_ret2
    rw [HR.out]
    exact ⟨rfl, hK⟩
  have HR := Lib.hid (show vfmtS k e n ms = (vtext k e n ms, 0) by rw [vfmtS, hv, hi]; rfl)
  rw [hv] at hT
  rw [show validB k e n ms = true by rw [validB, hv, hi]; rfl] at hI
  rcases vt_true hv with ⟨hk, rfl⟩ | ⟨rfl, j, rfl, hj⟩
  · have hb := (inB_iff hv).1 hi
    clear hv hi
    rcases hk with rfl | rfl | rfl | rfl | rfl
    · obtain ⟨b0, b1⟩ : 0 ≤ n ∧ n ≤ 1 := hb
      obtain rfl | rfl : n = 0 ∨ n = 1 := by omega
      all_goals
        go_enter Tryz.func44, Tryz.ntmps44
        go_wp2_with (first
      | (go_at_call 64; refine (rtype_any _ _ _ _).mono ?_; rintro r w0 ⟨rfl, hk⟩; have hK := ((Kept.refl _).alloc _).trans hk; have B := hk.blk1; have c0 := B.cell 0; have c1 := B.cell 1; have c2 := B.cell 2; clear hk)
      | (go_at_call 69; refine (hT.out _ (hE1 _ hK)).mono ?_; rintro r w1 ⟨rfl, hk⟩; have hK := hK.trans hk; have B := B.kept hk; have c0 := B.cell 0; have c1 := B.cell 1; have c2 := B.cell 2; clear hk)
      | (go_at_call 70; refine (hI.out _ (hE1 _ hK)).mono ?_; rintro r w2 ⟨rfl, hk2⟩; have hK := hK.trans hk2; have B := B.kept hk2; have c0 := B.cell 0; have c1 := B.cell 2; clear hk2)
      | (go_at_call 68; refine (hF2.out _).mono ?_; rintro r w3 ⟨rfl, hk3⟩; have hK := hK.trans hk3)
      | (go_at_call 71; refine (hF3.out _).mono ?_; rintro r w3 ⟨rfl, hk3⟩; have hK := hK.trans hk3)
      | (go_at_call 21; refine (hF5.out _).mono ?_; rintro r w3 ⟨rfl, hk3⟩; have hK := hK.trans hk3))
        go_ret2
        rw [HR.out]
        exact ⟨rfl, hK⟩
    · go_enter Tryz.func44, Tryz.ntmps44
      go_wp2_with (first
      | (go_at_call 64; refine (rtype_any _ _ _ _).mono ?_; rintro r w0 ⟨rfl, hk⟩; have hK := ((Kept.refl _).alloc _).trans hk; have B := hk.blk1; have c0 := B.cell 0; have c1 := B.cell 1; have c2 := B.cell 2; clear hk)
      | (go_at_call 69; refine (hT.out _ (hE1 _ hK)).mono ?_; rintro r w1 ⟨rfl, hk⟩; have hK := hK.trans hk; have B := B.kept hk; have c0 := B.cell 0; have c1 := B.cell 1; have c2 := B.cell 2; clear hk)
      | (go_at_call 70; refine (hI.out _ (hE1 _ hK)).mono ?_; rintro r w2 ⟨rfl, hk2⟩; have hK := hK.trans hk2; have B := B.kept hk2; have c0 := B.cell 0; have c1 := B.cell 2; clear hk2)
      | (go_at_call 68; refine (hF2.out _).mono ?_; rintro r w3 ⟨rfl, hk3⟩; have hK := hK.trans hk3)
      | (go_at_call 71; refine (hF3.out _).mono ?_; rintro r w3 ⟨rfl, hk3⟩; have hK := hK.trans hk3)
      | (go_at_call 21; refine (hF5.out _).mono ?_; rintro r w3 ⟨rfl, hk3⟩; have hK := hK.trans hk3))
      go_ret2
      rw [HR.out]
      exact ⟨rfl, hK⟩
    · have hF3 : Hid (∀ w, Calls Tryz.prog 71 #[.int .i64 n, .int .i64 2] w fun e w' => e = .returned (.string (fixS n 2)) ∧ Kept w w') := Lib.hid (fun w => rformatFixed_any n 2 h0 h1 w)
      go_enter Tryz.func44, Tryz.ntmps44
      go_wp2_with (first
      | (go_at_call 64; refine (rtype_any _ _ _ _).mono ?_; rintro r w0 ⟨rfl, hk⟩; have hK := ((Kept.refl _).alloc _).trans hk; have B := hk.blk1; have c0 := B.cell 0; have c1 := B.cell 1; have c2 := B.cell 2; clear hk)
      | (go_at_call 69; refine (hT.out _ (hE1 _ hK)).mono ?_; rintro r w1 ⟨rfl, hk⟩; have hK := hK.trans hk; have B := B.kept hk; have c0 := B.cell 0; have c1 := B.cell 1; have c2 := B.cell 2; clear hk)
      | (go_at_call 70; refine (hI.out _ (hE1 _ hK)).mono ?_; rintro r w2 ⟨rfl, hk2⟩; have hK := hK.trans hk2; have B := B.kept hk2; have c0 := B.cell 0; have c1 := B.cell 2; clear hk2)
      | (go_at_call 68; refine (hF2.out _).mono ?_; rintro r w3 ⟨rfl, hk3⟩; have hK := hK.trans hk3)
      | (go_at_call 71; refine (hF3.out _).mono ?_; rintro r w3 ⟨rfl, hk3⟩; have hK := hK.trans hk3)
      | (go_at_call 21; refine (hF5.out _).mono ?_; rintro r w3 ⟨rfl, hk3⟩; have hK := hK.trans hk3))
      go_ret2
      rw [HR.out]
      exact ⟨rfl, hK⟩
    · have hF3 : Hid (∀ w, Calls Tryz.prog 71 #[.int .i64 n, .int .i64 4] w fun e w' => e = .returned (.string (fixS n 4)) ∧ Kept w w') := Lib.hid (fun w => rformatFixed_any n 4 h0 h1 w)
      have hz := fixS_small n 4 h0 h1 (by decide)
      have HT := Lib.hid (show vtext 4 0 n ms = fixS n 4 ++ ⟨#[37]⟩ from rfl)
      generalize fixS n 4 = X at *
      have hz2 : ¬ (9223372036854775807 < X.size + (⟨#[37]⟩ : ByteArray).size) := by show ¬ (_ < X.size + 1); omega
      go_enter Tryz.func44, Tryz.ntmps44
      go_wp2_with (first
      | (go_at_call 64; refine (rtype_any _ _ _ _).mono ?_; rintro r w0 ⟨rfl, hk⟩; have hK := ((Kept.refl _).alloc _).trans hk; have B := hk.blk1; have c0 := B.cell 0; have c1 := B.cell 1; have c2 := B.cell 2; clear hk)
      | (go_at_call 69; refine (hT.out _ (hE1 _ hK)).mono ?_; rintro r w1 ⟨rfl, hk⟩; have hK := hK.trans hk; have B := B.kept hk; have c0 := B.cell 0; have c1 := B.cell 1; have c2 := B.cell 2; clear hk)
      | (go_at_call 70; refine (hI.out _ (hE1 _ hK)).mono ?_; rintro r w2 ⟨rfl, hk2⟩; have hK := hK.trans hk2; have B := B.kept hk2; have c0 := B.cell 0; have c1 := B.cell 2; clear hk2)
      | (go_at_call 68; refine (hF2.out _).mono ?_; rintro r w3 ⟨rfl, hk3⟩; have hK := hK.trans hk3)
      | (go_at_call 71; refine (hF3.out _).mono ?_; rintro r w3 ⟨rfl, hk3⟩; have hK := hK.trans hk3)
      | (go_at_call 21; refine (hF5.out _).mono ?_; rintro r w3 ⟨rfl, hk3⟩; have hK := hK.trans hk3))
      go_ret2
      rw [HR.out, HT.out]
      exact ⟨rfl, hK⟩
    · go_enter Tryz.func44, Tryz.ntmps44
      go_wp2_with (first
      | (go_at_call 64; refine (rtype_any _ _ _ _).mono ?_; rintro r w0 ⟨rfl, hk⟩; have hK := ((Kept.refl _).alloc _).trans hk; have B := hk.blk1; have c0 := B.cell 0; have c1 := B.cell 1; have c2 := B.cell 2; clear hk)
      | (go_at_call 69; refine (hT.out _ (hE1 _ hK)).mono ?_; rintro r w1 ⟨rfl, hk⟩; have hK := hK.trans hk; have B := B.kept hk; have c0 := B.cell 0; have c1 := B.cell 1; have c2 := B.cell 2; clear hk)
      | (go_at_call 70; refine (hI.out _ (hE1 _ hK)).mono ?_; rintro r w2 ⟨rfl, hk2⟩; have hK := hK.trans hk2; have B := B.kept hk2; have c0 := B.cell 0; have c1 := B.cell 2; clear hk2)
      | (go_at_call 68; refine (hF2.out _).mono ?_; rintro r w3 ⟨rfl, hk3⟩; have hK := hK.trans hk3)
      | (go_at_call 71; refine (hF3.out _).mono ?_; rintro r w3 ⟨rfl, hk3⟩; have hK := hK.trans hk3)
      | (go_at_call 21; refine (hF5.out _).mono ?_; rintro r w3 ⟨rfl, hk3⟩; have hK := hK.trans hk3))
      go_ret2
      rw [HR.out]
      exact ⟨rfl, hK⟩
  · obtain ⟨b, off, cap, N, B2, cc, l, hl, hN, hn9, rfl, hb, hcl, hcm⟩ := hE.at_ hj
    have hm := hE
    obtain ⟨_, _, _, hm, _⟩ := hm
    have hb2 := (inB_iff hv).1 hi
    have HT := Lib.hid (show vtext 6 (j : Int) n ms = l[n.toNat]?.getD ⟨#[]⟩ by
      show (memS (j : Int) ms)[n.toNat]?.getD ⟨#[]⟩ = _
      rw [memS, Int.toNat_natCast, hl]; rfl)
    obtain ⟨i, rfl⟩ : ∃ i : Nat, n = i := ⟨n.toNat, by have : 0 ≤ n := hb2.1; omega⟩
    rw [Int.toNat_natCast] at HT
    have hiN : i < N := by
      have h2 : (i : Int) ≤ ((memS (j : Int) ms).length : Int) - 1 := hb2.2
      rw [memS, Int.toNat_natCast, hl, Option.getD_some, hN] at h2
      omega
    obtain ⟨b3, off3, rfl, hb3, hc3⟩ := hcm (by omega)
    have hc4 := hc3 i hiN
    clear hc3 hcm hb2 hv hi hl hN
    generalize l[i]?.getD ⟨#[]⟩ = Z at *
    have hji : (j : Int) < ms.length := by omega
    have hiI : (i : Int) < N := by omega
    go_enter Tryz.func44, Tryz.ntmps44
    go_wp2_with (first
      | (go_at_call 64; refine (rtype_any _ _ _ _).mono ?_; rintro r w0 ⟨rfl, hk⟩; have hK := ((Kept.refl _).alloc _).trans hk; have B := hk.blk1; have c0 := B.cell 0; have c1 := B.cell 1; have c2 := B.cell 2; clear hk)
      | (go_at_call 69; refine (hT.out _ (hE1 _ hK)).mono ?_; rintro r w1 ⟨rfl, hk⟩; have hK := hK.trans hk; have B := B.kept hk; have c0 := B.cell 0; have c1 := B.cell 1; have c2 := B.cell 2; clear hk)
      | (go_at_call 70; refine (hI.out _ (hE1 _ hK)).mono ?_; rintro r w2 ⟨rfl, hk2⟩; have hK := hK.trans hk2; have B := B.kept hk2; have c0 := B.cell 0; have c1 := B.cell 2; clear hk2)
      | (go_at_call 68; refine (hF2.out _).mono ?_; rintro r w3 ⟨rfl, hk3⟩; have hK := hK.trans hk3)
      | (go_at_call 71; refine (hF3.out _).mono ?_; rintro r w3 ⟨rfl, hk3⟩; have hK := hK.trans hk3)
      | (go_at_call 21; refine (hF5.out _).mono ?_; rintro r w3 ⟨rfl, hk3⟩; have hK := hK.trans hk3))
    have d1 := KW.cell B.lt (B.cell 1)
    have d2 := KW.cell B.lt (B.cell 2)
    have hkl := KW.cell (Nat.lt_of_lt_of_le hb hK.size) (hK.cell (p := ⟨b, off + j * 2 + 1, none⟩) hb hcl)
    have hkm := KW.cell (Nat.lt_of_lt_of_le hb3 hK.size) (hK.cell (p := ⟨b3, off3 + i, none⟩) hb3 hc4)
    refine wp_region_kept (by kernel_rfl) (by kernel_rfl) ?_
    repeat (go_big_quiet_step (fail))
    refine wpQuiet_nil ?_
    rintro _ ⟨⟨wx, hx2⟩, rfl⟩
    go_wp2_with fail
    go_ret2
    rw [HR.out, HT.out]
    exact ⟨rfl, hK.trans hx2⟩
end Go.Proofs.YtemejaomfbhldaaGreatDoor
/- What parseNumber of package value, and number of its reference, compute. -/
namespace Go.Proofs.YtemejaomfbhldaaGreatDoor
open Go.RowKit

theorem neqV (X Y : ByteArray) : (X.toList == Y.toList) = decide (X = Y) := by
  rw [toList_L, toList_L]
  by_cases h : X = Y
  · subst h; simp
  · rw [decide_eq_false h]
    simpa using fun e => h (L_inj.1 e)
theorem neqC (X : ByteArray) (l : List UInt8) : (X.toList == l) = decide (X = bs l) := by
  rw [toList_L]
  by_cases h : X = bs l
  · subst h; simp
  · rw [decide_eq_false h]
    have : L X ≠ l := fun e => h (by rw [← e, bs_L])
    simpa using this
theorem hasSuf (l : List UInt8) : Lib.hasSuffix l [37] = (l.getLast? == some 37) := by
  unfold Lib.hasSuffix List.isSuffixOf
  rcases List.eq_nil_or_concat l with rfl | ⟨i, c, rfl⟩
  · rfl
  · simp [List.isPrefixOf, Bool.beq_comm]
theorem cutSuf_yes (s : ByteArray) (hs : s.size ≤ 9223372036854775807) (h : (L s).getLast? = some 37) (w : World) :
    Calls Tryz.prog 95 #[.string s, .string ⟨#[37]⟩] w fun e w' => e = .returned (.tuple #[.string (bs (L s).dropLast), .bool true]) ∧ w = w' := by
  refine (Tryz.strings_CutSuffix s ⟨#[37]⟩ w hs).mono ?_
  rintro e w' ⟨rfl, rfl⟩
  refine ⟨?_, rfl⟩
  have h1 : Lib.hasSuffix (L s) [37] = true := by rw [hasSuf, h]; rfl
  show Ending.returned (.tuple #[.string (bs (Lib.trimSuffix (L s) [37])), .bool (Lib.hasSuffix (L s) [37])]) = _
  rw [h1, Lib.trimSuffix, if_pos h1, List.dropLast_eq_take]
  rfl
theorem cutSuf_no (s : ByteArray) (hs : s.size ≤ 9223372036854775807) (h : (L s).getLast? ≠ some 37) (w : World) :
    Calls Tryz.prog 95 #[.string s, .string ⟨#[37]⟩] w fun e w' => e = .returned (.tuple #[.string s, .bool false]) ∧ w = w' := by
  refine (Tryz.strings_CutSuffix s ⟨#[37]⟩ w hs).mono ?_
  rintro e w' ⟨rfl, rfl⟩
  refine ⟨?_, rfl⟩
  have h1 : Lib.hasSuffix (L s) [37] = false := by rw [hasSuf]; simpa using h
  show Ending.returned (.tuple #[.string (bs (Lib.trimSuffix (L s) [37])), .bool (Lib.hasSuffix (L s) [37])]) = _
  rw [h1, Lib.trimSuffix, h1]
  show Ending.returned (.tuple #[.string (bs (L s)), .bool false]) = _
  rw [bs_L]
theorem vnum_bool (s : ByteArray) (e : Int) (ms : List (List ByteArray)) : (s = ⟨#[102, 97, 108, 115, 101]⟩ ∧ vnumS s 1 e ms = (0, 0)) ∨ (s = ⟨#[116, 114, 117, 101]⟩ ∧ vnumS s 1 e ms = (1, 0)) ∨
    ((s.toList == [102, 97, 108, 115, 101]) = false ∧ (s.toList == [116, 114, 117, 101]) = false ∧ vnumS s 1 e ms = (0, 2)) := by
  by_cases h1 : s = ⟨#[102, 97, 108, 115, 101]⟩
  · subst h1; exact .inl ⟨rfl, rfl⟩
  · by_cases h2 : s = ⟨#[116, 114, 117, 101]⟩
    · subst h2; exact .inr (.inl ⟨rfl, rfl⟩)
    · refine .inr (.inr ⟨by rw [neqC]; exact decide_eq_false h1, by rw [neqC]; exact decide_eq_false h2, ?_⟩)
      show (if s = ⟨#[102, 97, 108, 115, 101]⟩ then ((0 : Int), (0 : Int)) else if s = ⟨#[116, 114, 117, 101]⟩ then (1, 0) else (0, 2)) = _
      rw [if_neg h1, if_neg h2]
theorem vnum_rate_yes {s : ByteArray} {e : Int} {ms : List (List ByteArray)} (h : (L s).getLast? = some 37) : vnumS s 4 e ms = refP (L s).dropLast 4 := by
  show (if (L s).getLast? = some 37 then refP (L s).dropLast 4 else (0, 2)) = _
  rw [if_pos h]
theorem vnum_rate_no {s : ByteArray} {e : Int} {ms : List (List ByteArray)} (h : (L s).getLast? ≠ some 37) : vnumS s 4 e ms = (0, 2) := by
  show (if (L s).getLast? = some 37 then refP (L s).dropLast 4 else (0, 2)) = _
  rw [if_neg h]
theorem ret_two {r : Int × Int} {a b : Int} (h : r = (a, b)) : Ending.returned (.tuple #[.int .i64 a, .int .i64 b]) = .returned (.tuple #[.int .i64 r.1, .int .i64 r.2]) := by rw [h]

set_option maxRecDepth 100000 in
set_option maxHeartbeats 8000000 in
theorem vparseN_low (s : ByteArray) (k : Int) (hk : k = 1 ∨ k = 2 ∨ k = 3 ∨ k = 4 ∨ k = 5) (v : Value) (ms : List (List ByteArray)) (w : World) (hs : s.size ≤ 1000000) (hM : Mon w) :
    Calls Tryz.prog 75 #[.string s, .agg #[.int .i64 k, .int .i64 0], v] w fun r w' => r = .returned (.tuple #[.int .i64 (vnumS s k 0 ms).1, .int .i64 (vnumS s k 0 ms).2]) ∧ Kept w w' := by
  rcases hk with rfl | rfl | rfl | rfl | rfl
  · rcases vnum_bool s 0 ms with ⟨rfl, h⟩ | ⟨rfl, h⟩ | ⟨h1, h2, h⟩
    all_goals
      have HR := Lib.hid h
      clear h
      go_enter Tryz.func75, Tryz.ntmps75
      go_wp2_with fail
      go_ret2
      rw [HR.out]
      exact ⟨rfl, (Kept.refl _).alloc _⟩
  · have HR := Lib.hid (show parP (L s) 0 = vnumS s 2 0 ms from parP_refI (L s))
    have hF := Lib.hid (fun w => parseInt_any s hs w)
    generalize parP (L s) 0 = q at *
    obtain ⟨q1, q2⟩ := q
    dsimp only at hF
    go_enter Tryz.func75, Tryz.ntmps75
    go_wp2_with (go_at_call 93; refine (hF.out _).mono ?_; rintro r w1 ⟨rfl, hk⟩)
    go_ret2
    exact ⟨ret_two HR.out.symm, ((Kept.refl _).alloc _).trans hk⟩
  · have hF := Lib.hid (fun w => parseFixed_any s 2 hs w)
    have HR := Lib.hid (show vnumS s 3 0 ms = refP (L s) 2 from rfl)
    generalize refP (L s) 2 = q at *
    obtain ⟨q1, q2⟩ := q
    dsimp only at hF
    go_enter Tryz.func75, Tryz.ntmps75
    go_wp2_with (go_at_call 94; refine (hF.out _).mono ?_; rintro r w1 ⟨rfl, hk⟩)
    go_ret2
    exact ⟨ret_two HR.out, ((Kept.refl _).alloc _).trans hk⟩
  · by_cases hl : (L s).getLast? = some 37
    · have HR := Lib.hid (vnum_rate_yes (e := 0) (ms := ms) hl)
      have hC := Lib.hid (fun w => cutSuf_yes s (by omega) hl w)
      have hF := Lib.hid (fun w => parseFixed_any (bs (L s).dropLast) 4 (by rw [bs_size, List.length_dropLast, L_length]; omega) w)
      rw [L_bs] at hF
      generalize refP (L s).dropLast 4 = q at *
      generalize bs (L s).dropLast = X at *
      obtain ⟨q1, q2⟩ := q
      dsimp only at hF
      clear hl
      go_enter Tryz.func75, Tryz.ntmps75
      go_wp2_with (first
        | (go_at_call 95; refine (hC.out _).mono ?_; rintro r w1 ⟨rfl, rfl⟩)
        | (go_at_call 94; refine (hF.out _).mono ?_; rintro r w1 ⟨rfl, hk⟩))
      go_ret2
      exact ⟨ret_two HR.out, ((Kept.refl _).alloc _).trans hk⟩
    · have HR := Lib.hid (vnum_rate_no (e := 0) (ms := ms) hl)
      have hC := Lib.hid (fun w => cutSuf_no s (by omega) hl w)
      clear hl
      go_enter Tryz.func75, Tryz.ntmps75
      go_wp2_with (go_at_call 95; refine (hC.out _).mono ?_; rintro r w1 ⟨rfl, rfl⟩)
      go_ret2
      rw [HR.out]
      exact ⟨rfl, (Kept.refl _).alloc _⟩
  · have hF := Lib.hid (fun w hM => parse_any s w hM)
    have HR := Lib.hid (show vnumS s 5 0 ms = dparS s from rfl)
    generalize dparS s = q at *
    obtain ⟨q1, q2⟩ := q
    dsimp only at hF
    go_enter Tryz.func75, Tryz.ntmps75
    go_wp2_with (go_at_call 25; refine (hF.out _ (hM.kept ((Kept.refl _).alloc _))).mono ?_; rintro r w1 ⟨rfl, hk⟩)
    go_ret2
    exact ⟨ret_two HR.out, ((Kept.refl _).alloc _).trans hk⟩
end Go.Proofs.YtemejaomfbhldaaGreatDoor
/- What Parse of package value, and of its reference, computes. -/
namespace Go.Proofs.YtemejaomfbhldaaGreatDoor
open Go.RowKit

theorem findS_at {s : ByteArray} : ∀ {l : List ByteArray} {p : Nat} (i : Nat), l[p]? = some s → (∀ m, m < p → l[m]? ≠ some s) → findS s l i = some (i + p)
  | [], p, i, h, _ => by simp at h
  | x :: r, p, i, h, hn => by
    rw [findS]
    cases p with
    | zero =>
      obtain rfl : x = s := Option.some.inj h
      rw [if_pos rfl]; rfl
    | succ p =>
      have h0 : x ≠ s := fun e => hn 0 (by omega) (by rw [e]; rfl)
      rw [if_neg h0, findS_at (p := p) (i + 1) (by simpa using h) (fun m hm => by have := hn (m + 1) (by omega); simpa using this)]
      congr 1; omega
theorem findS_end {s : ByteArray} : ∀ {l : List ByteArray} (i : Nat), (∀ m, m < l.length → l[m]? ≠ some s) → findS s l i = none
  | [], i, _ => rfl
  | x :: r, i, hn => by
    have h0 : x ≠ s := fun e => hn 0 (by simp) (by rw [e]; rfl)
    rw [findS, if_neg h0]
    exact findS_end (i + 1) (fun m hm => by have := hn (m + 1) (by simpa using hm); simpa using this)
/-- no member before p bears the name -/
def NoneS (s : ByteArray) (l : List ByteArray) (p : Nat) : Prop := ∀ m, m < p → l[m]? ≠ some s
theorem NoneS.zero (s : ByteArray) (l : List ByteArray) : NoneS s l 0 := fun m hm => absurd hm (by omega)
theorem NoneS.succ {s : ByteArray} {l : List ByteArray} {p : Nat} (h : NoneS s l p) (hp : l[p]? ≠ some s) : NoneS s l (p + 1) := by
  intro m hm
  rcases Nat.lt_or_ge m p with hl | hl
  · exact h m hl
  · obtain rfl : m = p := by omega
    exact hp
def vsix (s : ByteArray) (l : List ByteArray) : Int × Int := match findS s l 0 with | some i => ((i : Int), 0) | none => (0, 6)
theorem vsix_at {s : ByteArray} {l : List ByteArray} {p : Nat} (h : l[p]? = some s) (hn : NoneS s l p) : vsix s l = ((p : Int), 0) := by
  rw [vsix, findS_at 0 h hn, Nat.zero_add]
theorem vsix_end {s : ByteArray} {l : List ByteArray} (hn : NoneS s l l.length) : vsix s l = (0, 6) := by rw [vsix, findS_end 0 hn]
theorem vnum_six {s : ByteArray} {j : Nat} {ms : List (List ByteArray)} {l : List ByteArray} (h : ms[j]? = some l) : vnumS s 6 j ms = vsix s l := by
  show (match findS s (memS (j : Int) ms) 0 with | some i => ((i : Int), (0 : Int)) | none => (0, 6)) = _
  rw [memS, Int.toNat_natCast, h]; rfl

set_option maxRecDepth 100000 in
set_option maxHeartbeats 8000000 in
theorem vparseN_six (s : ByteArray) (j : Nat) (v : Value) (ms : List (List ByteArray)) (hj : j < ms.length) (w : World) (hE : Enums w v ms) :
    Calls Tryz.prog 75 #[.string s, .agg #[.int .i64 6, .int .i64 j], v] w fun r w' => r = .returned (.tuple #[.int .i64 (vnumS s 6 j ms).1, .int .i64 (vnumS s 6 j ms).2]) ∧ Kept w w' := by
  obtain ⟨b, off, cap, N, B2, cc, l, hl, hN, hn9, rfl, hb, hcl, hcm⟩ := hE.at_ hj
  have hm := hE
  obtain ⟨_, _, _, hm, _⟩ := hm
  rw [vnum_six hl]
  clear hl
  have HN := Lib.hid hN
  clear hN
  have hji : (j : Int) < ms.length := by omega
  go_enter Tryz.func75, Tryz.ntmps75
  go_wp2_with fail
  go_loop [59] (fun z => ∃ pos : Nat, pos ≤ N ∧ z = .int .i64 pos ∧ NoneS s l pos) (fun z => (N - intOf z).toNat)
  case atStart => exact ⟨0, Nat.zero_le _, rfl, NoneS.zero _ _⟩
  case round =>
    obtain ⟨pos, hps, rfl, hno⟩ := hrel
    by_cases hp : pos < N
    · obtain ⟨b3, off3, rfl, hb3, hc3⟩ := hcm (by omega)
      have hx : l[pos]? = some (l[pos]'(by have := HN.out; omega)) := List.getElem?_eq_getElem _
      have hc4 := hc3 pos hp
      rw [hx] at hc4
      have HF := Lib.hid (fun (h : l[pos]'(by have := HN.out; omega) = s) => vsix_at (s := s) (by rw [hx, h]) hno)
      have HS := Lib.hid (fun (h : l[pos]'(by have := HN.out; omega) ≠ s) => hno.succ (by rw [hx]; exact fun e => h (Option.some.inj e)))
      clear hx hc3 hcm hno
      generalize l[pos]'(by have := HN.out; omega) = X at *
      have hpi : (pos : Int) < N := by omega
      change w.cell? _ = some (.string X) at hc4
      cases hd : decide (X = s)
      · have HS := Lib.hid (HS.out (by simpa using hd))
        rw [← neqV] at hd
        clear HF
        go_wp2_with fail
        go_round
        case rel => exact ⟨pos + 1, hp, by go_num, HS.out⟩
        case measure => simp only [intOf]; omega
      · have HF := Lib.hid (HF.out (by simpa using hd))
        rw [← neqV] at hd
        clear HS
        go_wp2_with fail
        go_ret2
        rw [HF.out]
        exact ⟨rfl, (Kept.refl _).alloc _⟩
    · have HE := Lib.hid (vsix_end (s := s) (l := l) (by rw [HN.out, show N = pos by omega]; exact hno))
      clear hno
      have hpi : ¬ ((pos : Int) < N) := by omega
      go_wp2_with fail
      go_ret2
      rw [HE.out]
      exact ⟨rfl, (Kept.refl _).alloc _⟩
end Go.Proofs.YtemejaomfbhldaaGreatDoor
/- What Parse of package value computes. -/
namespace Go.Proofs.YtemejaomfbhldaaGreatDoor
open Go.RowKit

set_option maxHeartbeats 1000000 in
theorem vparseN_any (s : ByteArray) (k e : Int) (v : Value) (ms : List (List ByteArray)) (hv : vtB k e ms = true) (hs : k ≠ 6 → s.size ≤ 1000000) (w : World) (hE : Enums w v ms) (hM : Mon w) :
    Calls Tryz.prog 75 #[.string s, .agg #[.int .i64 k, .int .i64 e], v] w fun r w' => r = .returned (.tuple #[.int .i64 (vnumS s k e ms).1, .int .i64 (vnumS s k e ms).2]) ∧ Kept w w' := by
  rcases vt_true hv with ⟨hk, rfl⟩ | ⟨rfl, j, rfl, hj⟩
  · exact vparseN_low s k hk v ms w (hs (by omega)) hM
  · exact vparseN_six s j v ms hj w hE
/-- a value and an error code, as Go returns them -/
def vpV (R : Int × Int × Int × Int) : Value := .tuple #[.agg #[.int .i64 R.1, .int .i64 R.2.1, .int .i64 R.2.2.1], .int .i64 R.2.2.2]

set_option maxRecDepth 100000 in
set_option maxHeartbeats 8000000 in
theorem vparse_any (s : ByteArray) (k e : Int) (v : Value) (ms : List (List ByteArray)) (hs : k ≠ 6 → s.size ≤ 1000000) (w : World) (hE : Enums w v ms) (hM : Mon w) :
    Calls Tryz.prog 50 #[.string s, .agg #[.int .i64 k, .int .i64 e], v] w fun r w' => r = .returned (vpV (vparS s k e ms)) ∧ Kept w w' := by
  have hE1 := fun w' (h : Kept w w') => hE.kept h
  have hT := Lib.hid (fun w h => vtype_any k e v ms w h)
  cases hv : vtB k e ms
  · have HR := Lib.hid (show vparS s k e ms = (0, 0, 0, 8) by rw [vparS, hv]; rfl)
    rw [hv] at hT
    clear hv
    go_enter Tryz.func50, Tryz.ntmps50
    go_wp2_with (go_at_call 61; refine (hT.out _ (hE1 _ (((Kept.refl _).alloc _).alloc _))).mono ?_; rintro r w1 ⟨rfl, hk⟩; have hK := (((Kept.refl _).alloc _).alloc _).trans hk; have B := hk.blk2.2; have b := B.cell; have l := B.lt; have f := B.frozen)
    refine bodyPost_ret (v := vpV (vparS s k e ms)) (by rw [HR.out]; simp [vpV, results, Tryz.results50, go_sem, b]) rfl ⟨rfl, ?_⟩
    repeat refine Kept.setCell ?_ (by simp only; omega) _
    exact hK
  have hN := Lib.hid (fun w h hM => vparseN_any s k e v ms hv hs w h hM)
  have hI := Lib.hid (fun n w h => within_any n k e v ms w h)
  have HV : vparS s k e ms = (if (vnumS s k e ms).2 = 0 then (if inB (vnumS s k e ms).1 k e ms then (k, e, (vnumS s k e ms).1, 0) else (0, 0, 0, 3)) else (0, 0, 0, (vnumS s k e ms).2)) := by rw [vparS, hv]; rfl
  rw [hv] at hT
  clear hv
  generalize vnumS s k e ms = N at *
  obtain ⟨n, c⟩ := N
  dsimp only at HV hN
  by_cases hc : c = 0
  · subst hc
    rw [if_pos rfl] at HV
    have hI := Lib.hid (hI.out n)
    generalize inB n k e ms = i at *
    cases i
    · have HR := Lib.hid (show vparS s k e ms = (0, 0, 0, 3) from HV)
      clear HV
      go_enter Tryz.func50, Tryz.ntmps50
      go_wp2_with (first
        | (go_at_call 61; refine (hT.out _ (hE1 _ (((Kept.refl _).alloc _).alloc _))).mono ?_; rintro r w1 ⟨rfl, hk⟩; have hK := (((Kept.refl _).alloc _).alloc _).trans hk; have B := hk.blk2.2; have b := B.cell; have l := B.lt; have f := B.frozen; have T := hk.blk2.1; have t := T.cell)
        | (go_at_call 75; refine (hN.out _ (hE1 _ hK) (hM.kept hK)).mono ?_; rintro r w2 ⟨rfl, hk⟩; have hK := hK.trans hk; have B := B.kept hk; have b := B.cell; have l := B.lt; have f := B.frozen; have T := T.kept hk; have t := T.cell)
        | (go_at_call 62; refine (hI.out _ (hE1 _ hK)).mono ?_; rintro r w3 ⟨rfl, hk⟩; have hK := hK.trans hk; have B := B.kept hk; have b := B.cell; have l := B.lt; have f := B.frozen; have T := T.kept hk; have t := T.cell))
      refine bodyPost_ret (v := vpV (vparS s k e ms)) (by rw [HR.out]; simp [vpV, results, Tryz.results50, go_sem, b]) rfl ⟨rfl, ?_⟩
      repeat refine Kept.setCell ?_ (by simp only; omega) _
      exact hK
    · have HR := Lib.hid (show vparS s k e ms = (k, e, n, 0) from HV)
      clear HV
      go_enter Tryz.func50, Tryz.ntmps50
      go_wp2_with (first
        | (go_at_call 61; refine (hT.out _ (hE1 _ (((Kept.refl _).alloc _).alloc _))).mono ?_; rintro r w1 ⟨rfl, hk⟩; have hK := (((Kept.refl _).alloc _).alloc _).trans hk; have B := hk.blk2.2; have b := B.cell; have l := B.lt; have f := B.frozen; have T := hk.blk2.1; have t := T.cell)
        | (go_at_call 75; refine (hN.out _ (hE1 _ hK) (hM.kept hK)).mono ?_; rintro r w2 ⟨rfl, hk⟩; have hK := hK.trans hk; have B := B.kept hk; have b := B.cell; have l := B.lt; have f := B.frozen; have T := T.kept hk; have t := T.cell)
        | (go_at_call 62; refine (hI.out _ (hE1 _ hK)).mono ?_; rintro r w3 ⟨rfl, hk⟩; have hK := hK.trans hk; have B := B.kept hk; have b := B.cell; have l := B.lt; have f := B.frozen; have T := T.kept hk; have t := T.cell))
      refine bodyPost_ret (v := vpV (vparS s k e ms)) (by rw [HR.out]; simp [vpV, results, Tryz.results50, go_sem, b]) rfl ⟨rfl, ?_⟩
      repeat refine Kept.setCell ?_ (by simp only; omega) _
      exact hK
  · have HR := Lib.hid (show vparS s k e ms = (0, 0, 0, c) by rw [HV, if_neg hc])
    have hcb := beq_no hc
    clear HV hI
    go_enter Tryz.func50, Tryz.ntmps50
    go_wp2_with (first
      | (go_at_call 61; refine (hT.out _ (hE1 _ (((Kept.refl _).alloc _).alloc _))).mono ?_; rintro r w1 ⟨rfl, hk⟩; have hK := (((Kept.refl _).alloc _).alloc _).trans hk; have B := hk.blk2.2; have b := B.cell; have l := B.lt; have f := B.frozen; have T := hk.blk2.1; have t := T.cell)
      | (go_at_call 75; refine (hN.out _ (hE1 _ hK) (hM.kept hK)).mono ?_; rintro r w2 ⟨rfl, hk⟩; have hK := hK.trans hk; have B := B.kept hk; have b := B.cell; have l := B.lt; have f := B.frozen; have T := T.kept hk; have t := T.cell))
    refine bodyPost_ret (v := vpV (vparS s k e ms)) (by rw [HR.out]; simp [vpV, results, Tryz.results50, go_sem, b]) rfl ⟨rfl, ?_⟩
    repeat refine Kept.setCell ?_ (by simp only; omega) _
    exact hK
end Go.Proofs.YtemejaomfbhldaaGreatDoor
/- What number and Parse of the reference of package value compute. -/
namespace Go.Proofs.YtemejaomfbhldaaGreatDoor
open Go.RowKit

/-- the last byte -/
theorem last_cases (s : ByteArray) : (s = ⟨#[]⟩ ∧ (L s).getLast? ≠ some 37) ∨ ∃ m : Nat, ∃ h : s.size = m + 1, (L s).dropLast = L (s.extract 0 m) ∧
    ((((s[m]'(by omega)).toNat : Int) == 37) = true ∧ (L s).getLast? = some 37 ∨ (((s[m]'(by omega)).toNat : Int) == 37) = false ∧ (L s).getLast? ≠ some 37) := by
  by_cases h0 : s.size = 0
  · have e : s = ⟨#[]⟩ := L_inj.1 (List.length_eq_zero_iff.1 (by rw [L_length]; exact h0))
    subst e
    exact .inl ⟨rfl, by decide⟩
  · refine .inr ⟨s.size - 1, by omega, ?_, ?_⟩
    · rw [L_extract, List.drop_zero, List.dropLast_eq_take, L_length]; rfl
    · have hg : (L s).getLast? = some (s[s.size - 1]'(by omega)) := by
        rw [List.getLast?_eq_getElem?, L_length, L_get s (s.size - 1) (by omega)]
      rw [hg]
      generalize s[s.size - 1]'(by omega) = c
      by_cases hc : c = 37
      · subst hc; exact .inl ⟨rfl, rfl⟩
      · have : c.toNat ≠ 37 := fun e => hc (UInt8.toNat_inj.1 e)
        exact .inr ⟨beq_no (by omega), by simpa using hc⟩

set_option maxRecDepth 100000 in
set_option maxHeartbeats 8000000 in
theorem vrnum_any (s : ByteArray) (k : Int) (hk : k = 1 ∨ k = 2 ∨ k = 3 ∨ k = 4 ∨ k = 5) (ms : List (List ByteArray)) (w : World) (hs : s.size ≤ 1000000) :
    Calls Tryz.prog 76 #[.string s, .int .i64 k] w fun r w' => r = .returned (.tuple #[.int .i64 (vnumS s k 0 ms).1, .int .i64 (vnumS s k 0 ms).2]) ∧ Kept w w' := by
  rcases hk with rfl | rfl | rfl | rfl | rfl
  · rcases vnum_bool s 0 ms with ⟨rfl, h⟩ | ⟨rfl, h⟩ | ⟨h1, h2, h⟩
    all_goals
      have HR := Lib.hid h
      clear h
      go_enter Tryz.func76, Tryz.ntmps76
      go_wp2_with fail
      go_ret2
      rw [HR.out]
      exact ⟨rfl, Kept.refl _⟩
  · have hF := Lib.hid (fun w => rparseInt_any s hs w)
    have HR := Lib.hid (show vnumS s 2 0 ms = refI (L s) from rfl)
    generalize refI (L s) = q at *
    obtain ⟨q1, q2⟩ := q
    dsimp only at hF
    go_enter Tryz.func76, Tryz.ntmps76
    go_wp2_with (go_at_call 96; refine (hF.out _).mono ?_; rintro r w1 ⟨rfl, rfl⟩)
    go_ret2
    exact ⟨ret_two HR.out, Kept.refl _⟩
  · have hF := Lib.hid (fun w => rparseFixed_any s 2 hs w)
    have HR := Lib.hid (show vnumS s 3 0 ms = refP (L s) 2 from rfl)
    generalize refP (L s) 2 = q at *
    obtain ⟨q1, q2⟩ := q
    dsimp only at hF
    go_enter Tryz.func76, Tryz.ntmps76
    go_wp2_with (go_at_call 97; refine (hF.out _).mono ?_; rintro r w1 ⟨rfl, hk⟩)
    go_ret2
    exact ⟨ret_two HR.out, hk⟩
  · rcases last_cases s with ⟨rfl, hl⟩ | ⟨m, hm, hd, ⟨hc, hl⟩ | ⟨hc, hl⟩⟩
    · have HR := Lib.hid (vnum_rate_no (e := 0) (ms := ms) hl)
      clear hl
      go_enter Tryz.func76, Tryz.ntmps76
      go_wp2_with fail
      go_ret2
      rw [HR.out]
      exact ⟨rfl, Kept.refl _⟩
    · have HR := Lib.hid (vnum_rate_yes (e := 0) (ms := ms) hl)
      rw [hd] at HR
      have hF := Lib.hid (fun w => rparseFixed_any (s.extract 0 m) 4 (by rw [ext_size _ _ _ (by omega)]; omega) w)
      generalize refP (L (s.extract 0 m)) 4 = q at *
      obtain ⟨q1, q2⟩ := q
      dsimp only at hF
      have he : (s.toList == []) = false := by
        rw [toList_L]
        have : L s ≠ [] := fun e => by have := congrArg List.length e; rw [L_length, List.length_nil] at this; omega
        simpa using this
      clear hl hd
      go_enter Tryz.func76, Tryz.ntmps76
      go_wp2_with (go_at_call 97; refine (hF.out _).mono ?_; rintro r w1 ⟨rfl, hk⟩)
      go_ret2
      exact ⟨ret_two HR.out, hk⟩
    · have HR := Lib.hid (vnum_rate_no (e := 0) (ms := ms) hl)
      have he : (s.toList == []) = false := by
        rw [toList_L]
        have : L s ≠ [] := fun e => by have := congrArg List.length e; rw [L_length, List.length_nil] at this; omega
        simpa using this
      clear hl hd
      go_enter Tryz.func76, Tryz.ntmps76
      go_wp2_with fail
      go_ret2
      rw [HR.out]
      exact ⟨rfl, Kept.refl _⟩
  · have hF := Lib.hid (fun w => rparse_any s w)
    have HR := Lib.hid (show vnumS s 5 0 ms = dparS s from rfl)
    generalize dparS s = q at *
    obtain ⟨q1, q2⟩ := q
    dsimp only at hF
    go_enter Tryz.func76, Tryz.ntmps76
    go_wp2_with (go_at_call 29; refine (hF.out _).mono ?_; rintro r w1 ⟨rfl, hk⟩)
    go_ret2
    exact ⟨ret_two HR.out, hk⟩

set_option maxRecDepth 100000 in
set_option maxHeartbeats 8000000 in
theorem rvparse_any (s : ByteArray) (k e : Int) (v : Value) (ms : List (List ByteArray)) (hs : k ≠ 6 → s.size ≤ 1000000) (w : World) (hE : Enums w v ms) :
    Calls Tryz.prog 54 #[.string s, .agg #[.int .i64 k, .int .i64 e], v] w fun r w' => r = .returned (vpV (vparS s k e ms)) ∧ Kept w w' := by
  have hE1 := fun w' (h : Kept w w') => hE.kept h
  have hT := Lib.hid (fun w h => rvtype_any k e v ms w h)
  cases hv : vtB k e ms
  · have HR := Lib.hid (show vparS s k e ms = (0, 0, 0, 8) by rw [vparS, hv]; rfl)
    rw [hv] at hT
    clear hv
    go_enter Tryz.func54, Tryz.ntmps54
    go_wp2_with (go_at_call 69; refine (hT.out _ (hE1 _ (((Kept.refl _).alloc _).alloc _))).mono ?_; rintro r w1 ⟨rfl, hk⟩; have hK := (((Kept.refl _).alloc _).alloc _).trans hk; have B := hk.blk2.2; have b := B.cell; have l := B.lt; have f := B.frozen)
    refine bodyPost_ret (v := vpV (vparS s k e ms)) (by rw [HR.out]; simp [vpV, results, Tryz.results54, go_sem, b]) rfl ⟨rfl, ?_⟩
    repeat refine Kept.setCell ?_ (by simp only; omega) _
    exact hK
  have HV : vparS s k e ms = (if (vnumS s k e ms).2 = 0 then (if inB (vnumS s k e ms).1 k e ms then (k, e, (vnumS s k e ms).1, 0) else (0, 0, 0, 3)) else (0, 0, 0, (vnumS s k e ms).2)) := by rw [vparS, hv]; rfl
  have hv2 := hv
  rw [hv] at hT
  rcases vt_true hv with ⟨hk, rfl⟩ | ⟨rfl, j, rfl, hj⟩
  · have hN := Lib.hid (fun w => vrnum_any s k hk ms w (hs (by omega)))
    have hI := Lib.hid (fun n w h => rin_any n k 0 v ms w h)
    have hk6 := beq_no (show k ≠ 6 by omega)
    clear hv hk hs hv2
    generalize vnumS s k 0 ms = N at *
    obtain ⟨n, c⟩ := N
    dsimp only at HV hN
    by_cases hc : c = 0
    · subst hc
      rw [if_pos rfl] at HV
      have hI := Lib.hid (hI.out n)
      generalize inB n k 0 ms = i at *
      cases i
      · have HR := Lib.hid (show vparS s k 0 ms = (0, 0, 0, 3) from HV)
        clear HV
        go_enter Tryz.func54, Tryz.ntmps54
        go_wp2_with (first
          | (go_at_call 69; refine (hT.out _ (hE1 _ (((Kept.refl _).alloc _).alloc _))).mono ?_; rintro r w1 ⟨rfl, hk⟩; have hK := (((Kept.refl _).alloc _).alloc _).trans hk; have B := hk.blk2.2; have b := B.cell; have l := B.lt; have f := B.frozen; have T := hk.blk2.1; have t := T.cell)
          | (go_at_call 76; refine (hN.out _).mono ?_; rintro r w2 ⟨rfl, hk⟩; have hK := hK.trans hk; have B := B.kept hk; have b := B.cell; have l := B.lt; have f := B.frozen; have T := T.kept hk; have t := T.cell)
          | (go_at_call 65; refine (hI.out _ (hE1 _ hK)).mono ?_; rintro r w3 ⟨rfl, hk⟩; have hK := hK.trans hk; have B := B.kept hk; have b := B.cell; have l := B.lt; have f := B.frozen; have T := T.kept hk; have t := T.cell))
        refine bodyPost_ret (v := vpV (vparS s k 0 ms)) (by rw [HR.out]; simp [vpV, results, Tryz.results54, go_sem, b]) rfl ⟨rfl, ?_⟩
        repeat refine Kept.setCell ?_ (by simp only; omega) _
        exact hK
      · have HR := Lib.hid (show vparS s k 0 ms = (k, 0, n, 0) from HV)
        clear HV
        go_enter Tryz.func54, Tryz.ntmps54
        go_wp2_with (first
          | (go_at_call 69; refine (hT.out _ (hE1 _ (((Kept.refl _).alloc _).alloc _))).mono ?_; rintro r w1 ⟨rfl, hk⟩; have hK := (((Kept.refl _).alloc _).alloc _).trans hk; have B := hk.blk2.2; have b := B.cell; have l := B.lt; have f := B.frozen; have T := hk.blk2.1; have t := T.cell)
          | (go_at_call 76; refine (hN.out _).mono ?_; rintro r w2 ⟨rfl, hk⟩; have hK := hK.trans hk; have B := B.kept hk; have b := B.cell; have l := B.lt; have f := B.frozen; have T := T.kept hk; have t := T.cell)
          | (go_at_call 65; refine (hI.out _ (hE1 _ hK)).mono ?_; rintro r w3 ⟨rfl, hk⟩; have hK := hK.trans hk; have B := B.kept hk; have b := B.cell; have l := B.lt; have f := B.frozen; have T := T.kept hk; have t := T.cell))
        refine bodyPost_ret (v := vpV (vparS s k 0 ms)) (by rw [HR.out]; simp [vpV, results, Tryz.results54, go_sem, b]) rfl ⟨rfl, ?_⟩
        repeat refine Kept.setCell ?_ (by simp only; omega) _
        exact hK
    · have HR := Lib.hid (show vparS s k 0 ms = (0, 0, 0, c) by rw [HV, if_neg hc])
      have hcb := beq_no hc
      clear HV hI
      go_enter Tryz.func54, Tryz.ntmps54
      go_wp2_with (first
        | (go_at_call 69; refine (hT.out _ (hE1 _ (((Kept.refl _).alloc _).alloc _))).mono ?_; rintro r w1 ⟨rfl, hk⟩; have hK := (((Kept.refl _).alloc _).alloc _).trans hk; have B := hk.blk2.2; have b := B.cell; have l := B.lt; have f := B.frozen; have T := hk.blk2.1; have t := T.cell)
        | (go_at_call 76; refine (hN.out _).mono ?_; rintro r w2 ⟨rfl, hk⟩; have hK := hK.trans hk; have B := B.kept hk; have b := B.cell; have l := B.lt; have f := B.frozen; have T := T.kept hk; have t := T.cell))
      refine bodyPost_ret (v := vpV (vparS s k 0 ms)) (by rw [HR.out]; simp [vpV, results, Tryz.results54, go_sem, b]) rfl ⟨rfl, ?_⟩
      repeat refine Kept.setCell ?_ (by simp only; omega) _
      exact hK
  · obtain ⟨b3, off, cap, N, B2, cc, l, hl, hN, hn9, rfl, hb, hcl, hcm⟩ := hE.at_ hj
    have hm := hE
    obtain ⟨_, _, _, hm, _⟩ := hm
    rw [vnum_six hl] at HV
    have hin : ∀ p : Nat, p < N → inB p 6 j ms = true := fun p hp => by
      rw [inB_six hl hv2, decide_eq_true (by omega), decide_eq_true (by omega)]; rfl
    have HVat := Lib.hid (fun (p : Nat) (hp : p < N) (h : vsix s l = ((p : Int), 0)) => (show vparS s 6 j ms = (6, (j : Int), (p : Int), 0) by rw [HV, h, if_pos rfl, if_pos (hin p hp)]))
    have HVno := Lib.hid (fun (h : vsix s l = (0, 6)) => (show vparS s 6 j ms = (0, 0, 0, 6) by rw [HV, h, if_neg (by decide)]))
    clear hl hin HV hv hv2 hs
    have HN := Lib.hid hN
    clear hN
    have hji : (j : Int) < ms.length := by omega
    go_enter Tryz.func54, Tryz.ntmps54
    go_wp2_with (go_at_call 69; refine (hT.out _ (hE1 _ (((Kept.refl _).alloc _).alloc _))).mono ?_; rintro r w1 ⟨rfl, hk⟩; have hK := (((Kept.refl _).alloc _).alloc _).trans hk; have B := hk.blk2.2; have b := B.cell; have l2 := B.lt; have f := B.frozen; have T := hk.blk2.1; have t := T.cell; have hcl1 := hK.cell (p := ⟨b3, _, none⟩) hb hcl)
    go_loop [9] (fun z => ∃ pos : Nat, pos ≤ N ∧ z = .int .i64 pos ∧ NoneS s l pos) (fun z => (N - intOf z).toNat)
    case atStart => exact ⟨0, Nat.zero_le _, rfl, NoneS.zero _ _⟩
    case round =>
      obtain ⟨pos, hps, rfl, hno⟩ := hrel
      by_cases hp : pos < N
      · obtain ⟨b4, off4, rfl, hb4, hc3⟩ := hcm (by omega)
        have hx : l[pos]? = some (l[pos]'(by have := HN.out; omega)) := List.getElem?_eq_getElem _
        have hc4 := hK.cell (p := ⟨b4, off4 + pos, none⟩) hb4 (hc3 pos hp)
        rw [hx] at hc4
        have HF := Lib.hid (fun (h : l[pos]'(by have := HN.out; omega) = s) => HVat.out pos hp (vsix_at (s := s) (by rw [hx, h]) hno))
        have HS := Lib.hid (fun (h : l[pos]'(by have := HN.out; omega) ≠ s) => hno.succ (by rw [hx]; exact fun e => h (Option.some.inj e)))
        clear hx hc3 hcm hno HVat HVno
        generalize l[pos]'(by have := HN.out; omega) = X at *
        have hpi : (pos : Int) < N := by omega
        change w1.cell? _ = some (.string X) at hc4
        cases hd : decide (X = s)
        · have HS := Lib.hid (HS.out (by simpa using hd))
          rw [← neqV] at hd
          clear HF
          go_wp2_with fail
          go_round
          case rel => exact ⟨pos + 1, hp, by go_num, HS.out⟩
          case measure => simp only [intOf]; omega
        · have HF := Lib.hid (HF.out (by simpa using hd))
          rw [← neqV] at hd
          clear HS
          go_wp2_with fail
          refine bodyPost_ret (v := vpV (vparS s 6 j ms)) (by rw [HF.out]; simp [vpV, results, Tryz.results54, go_sem, b]) rfl ⟨rfl, ?_⟩
          repeat refine Kept.setCell ?_ (by simp only; omega) _
          exact hK
      · have HF := Lib.hid (HVno.out (vsix_end (s := s) (l := l) (by rw [HN.out, show N = pos by omega]; exact hno)))
        clear hno HVat HVno
        have hpi : ¬ ((pos : Int) < N) := by omega
        go_wp2_with fail
        refine bodyPost_ret (v := vpV (vparS s 6 j ms)) (by rw [HF.out]; simp [vpV, results, Tryz.results54, go_sem, b]) rfl ⟨rfl, ?_⟩
        repeat refine Kept.setCell ?_ (by simp only; omega) _
        exact hK
end Go.Proofs.YtemejaomfbhldaaGreatDoor
/- Cases: what package casedata and its reference compute, in plain Lean. -/
namespace Go.Proofs.YtemejaomfbhldaaGreatDoor
open Go.RowKit

/-- a value: kind, enumeration, number -/
structure Vl where
  k : Int
  e : Int
  n : Int
def vlF (x : Vl) : List Value := [.int .i64 x.k, .int .i64 x.e, .int .i64 x.n]
theorem vlF_len (x : Vl) : (vlF x).length = 3 := rfl
abbrev Vals (w : World) (v : Value) (xs : List Vl) : Prop := Recs w vlF 3 v xs
/-- the type of an input -/
structure Ty where
  k : Int
  e : Int
/-- a scope: the scope of its members, and its inputs -/
structure Sc where
  m : Int
  ins : List Ty
/-- the first error of a list of values, from index i on -/
def chkF (ms : List (List ByteArray)) : Nat → List Ty → List Vl → Nat × Int
  | i, t :: ts, v :: vs => if v.k = t.k ∧ v.e = t.e then (if inB v.n t.k t.e ms then chkF ms (i + 1) ts vs else (i, 3)) else (i, 8)
  | _, _, _ => (0, 0)
def chkV (ms : List (List ByteArray)) (ts : List Ty) (vs : List Vl) : Nat × Int :=
  if vs.length < ts.length then (vs.length, 5) else if ts.length < vs.length then (ts.length, 4) else chkF ms 0 ts vs
/-- the inputs of the members, and how many there may be -/
def memI (scs : List Sc) (s : Sc) : List Ty × Nat := if s.m < 0 ∨ (scs.length : Int) ≤ s.m then ([], 0) else ((scs[s.m.toNat]?.getD ⟨0, []⟩).ins, 8)
/-- the first error of the members, from member m on -/
def chkM (ms : List (List ByteArray)) (ts : List Ty) : Nat → List (List Vl) → Int × Int × Int
  | _, [] => (0, 0, 0)
  | m, vs :: r => if (chkV ms ts vs).2 = 0 then chkM ms ts (m + 1) r else (m, (chkV ms ts vs).1, (chkV ms ts vs).2)
/-- the first error of a case: member, input, code -/
def valC (ms : List (List ByteArray)) (scs : List Sc) (sc d : Int) (ins : List Vl) (mem : List (List Vl)) : Int × Int × Int :=
  if sc < 0 ∨ (scs.length : Int) ≤ sc then (-1, -1, 6)
  else if d < 0 ∨ 109572 < d then (-1, -1, 3)
  else
    let s := scs[sc.toNat]?.getD ⟨0, []⟩
    if (chkV ms s.ins ins).2 = 0 then
      (if (memI scs s).2 < mem.length then ((memI scs s).2, -1, 4) else chkM ms (memI scs s).1 0 mem)
    else (-1, (chkV ms s.ins ins).1, (chkV ms s.ins ins).2)
/-- a line of values -/
noncomputable def lineV (ms : List (List ByteArray)) (word : List UInt8) (vs : List Vl) : List UInt8 :=
  word ++ vs.flatMap fun v => 32 :: L (vfmtS v.k v.e v.n ms).1
noncomputable def caseT (ms : List (List ByteArray)) (d : Int) (ins : List Vl) (mem : List (List Vl)) : List (List UInt8) :=
  ([100, 97, 116, 101, 32] ++ L (dateS d)) :: lineV ms [105, 110] ins :: mem.map (lineV ms [109, 101, 109, 98, 101, 114])
noncomputable def fmtCs (ms : List (List ByteArray)) (scs : List Sc) (sc d : Int) (ins : List Vl) (mem : List (List Vl)) : ByteArray × Int :=
  if (valC ms scs sc d ins mem).2.2 = 0 then (bs (textL (caseT ms d ins mem)), 0) else (⟨#[]⟩, (valC ms scs sc d ins mem).2.2)
/-- a text split at each blank -/
def spl (acc : List UInt8) : List UInt8 → List (List UInt8)
  | [] => [acc]
  | c :: r => if c = 32 then acc :: spl [] r else spl (acc ++ [c]) r
/-- the values of texts, or the first error -/
noncomputable def parV (ms : List (List ByteArray)) : List Ty → List (List UInt8) → List Vl → List Vl × Int
  | t :: ts, w :: ws, acc => if (vparS (bs w) t.k t.e ms).2.2.2 = 0 then parV ms ts ws (acc ++ [⟨(vparS (bs w) t.k t.e ms).1, (vparS (bs w) t.k t.e ms).2.1, (vparS (bs w) t.k t.e ms).2.2.1⟩]) else ([], (vparS (bs w) t.k t.e ms).2.2.2)
  | _, _, acc => (acc, 0)
/-- an input line with the word -/
noncomputable def parI (ms : List (List ByteArray)) (word : List UInt8) (ts : List Ty) (l : List UInt8) : List Vl × Int :=
  if (spl [] l).head? ≠ some word ∨ [] ∈ (spl [] l).drop 1 then ([], 2)
  else if ((spl [] l).drop 1).length < ts.length then ([], 5)
  else if ts.length < ((spl [] l).drop 1).length then ([], 4)
  else parV ms ts ((spl [] l).drop 1) []
/-- the member lines, from line i on -/
noncomputable def parM (ms : List (List ByteArray)) (ts : List Ty) (lim : Nat) : Nat → List (List UInt8) → List (List Vl) → List (List Vl) × Nat × Int
  | _, [], acc => (acc, 0, 0)
  | i, l :: r, acc => if lim ≤ acc.length then ([], i, 4) else if (parI ms [109, 101, 109, 98, 101, 114] ts l).2 = 0 then parM ms ts lim (i + 1) r (acc ++ [(parI ms [109, 101, 109, 98, 101, 114] ts l).1]) else ([], i, (parI ms [109, 101, 109, 98, 101, 114] ts l).2)
/-- a case: date, inputs, members -/
structure Cs where
  d : Int
  ins : List Vl
  mem : List (List Vl)
def cs0 : Cs := ⟨0, [], []⟩
def datW : List UInt8 := [100, 97, 116, 101, 32]
noncomputable def parCs (ms : List (List ByteArray)) (scs : List Sc) (sc : Int) (s : ByteArray) : Cs × Nat × Int :=
  if sc < 0 ∨ (scs.length : Int) ≤ sc then (cs0, 0, 6)
  else if (linR s).2 ≠ 0 then (cs0, 0, (linR s).2)
  else match (linR s).1.map L with
    | [] => (cs0, 0, 5)
    | l0 :: r =>
      if l0.take 5 ≠ datW then (cs0, 0, 2)
      else if (dparS (bs (l0.drop 5))).2 ≠ 0 then (cs0, 0, (dparS (bs (l0.drop 5))).2)
      else match r with
        | [] => (cs0, 1, 5)
        | l1 :: r =>
          let x := scs[sc.toNat]?.getD ⟨0, []⟩
          if (parI ms [105, 110] x.ins l1).2 ≠ 0 then (cs0, 1, (parI ms [105, 110] x.ins l1).2)
          else if (parM ms (memI scs x).1 (memI scs x).2 2 r []).2.2 ≠ 0 then (cs0, (parM ms (memI scs x).1 (memI scs x).2 2 r []).2.1, (parM ms (memI scs x).1 (memI scs x).2 2 r []).2.2)
          else (⟨(dparS (bs (l0.drop 5))).1, (parI ms [105, 110] x.ins l1).1, (parM ms (memI scs x).1 (memI scs x).2 2 r []).1⟩, 0, 0)
end Go.Proofs.YtemejaomfbhldaaGreatDoor
/- Laws and cases in memory, as far as package casedata reads them; what checkValues and memberInputs compute. -/
namespace Go.Proofs.YtemejaomfbhldaaGreatDoor
open Go.RowKit

/-- a field of a scope: its name and its type -/
structure Fd where
  nm : ByteArray
  k : Int
  e : Int
def fdF (x : Fd) : List Value := [.string x.nm, .int .i64 x.k, .int .i64 x.e]
theorem fdF_len (x : Fd) : (fdF x).length = 3 := rfl
/-- the slice value v reads as fields of the types ts -/
def Fds (w : World) (v : Value) (ts : List Ty) : Prop :=
  ∃ A cap, v = .slice A ts.length cap ∧ (0 < ts.length → ∃ b off, A = some ⟨b, off, none⟩ ∧ b < w.heap.size ∧
    ∀ j t, ts[j]? = some t → w.cell? ⟨b, off + j * 3 + 1, none⟩ = some (.int .i64 t.k) ∧ w.cell? ⟨b, off + j * 3 + 2, none⟩ = some (.int .i64 t.e))
theorem Fds.kept {w w' : World} {v : Value} {ts : List Ty} (h : Fds w v ts) (hk : Kept w w') : Fds w' v ts := by
  obtain ⟨A, cap, hv, hx⟩ := h
  refine ⟨A, cap, hv, fun hp => ?_⟩
  obtain ⟨b, off, hA, hb, hc⟩ := hx hp
  exact ⟨b, off, hA, Nat.lt_of_lt_of_le hb hk.size, fun j t hj => ⟨hk.cell (p := ⟨b, _, none⟩) hb (hc j t hj).1, hk.cell (p := ⟨b, _, none⟩) hb (hc j t hj).2⟩⟩
theorem Fds.nil (w : World) : Fds w (.slice none 0 0) [] := ⟨none, 0, rfl, fun h => absurd h (by simp)⟩
/-- the slice value v reads as the scopes scs -/
def Scs (w : World) (v : Value) (scs : List Sc) : Prop :=
  ∃ A cap, v = .slice A scs.length cap ∧ scs.length ≤ 9223372036854775807 ∧ (0 < scs.length → ∃ b off, A = some ⟨b, off, none⟩ ∧ b < w.heap.size ∧
    ∀ j s, scs[j]? = some s → s.ins.length ≤ 9223372036854775807 ∧ w.cell? ⟨b, off + j * 5 + 1, none⟩ = some (.int .i64 s.m) ∧ ∃ iv, w.cell? ⟨b, off + j * 5 + 2, none⟩ = some iv ∧ Fds w iv s.ins)
theorem Scs.kept {w w' : World} {v : Value} {scs : List Sc} (h : Scs w v scs) (hk : Kept w w') : Scs w' v scs := by
  obtain ⟨A, cap, hv, hl, hx⟩ := h
  refine ⟨A, cap, hv, hl, fun hp => ?_⟩
  obtain ⟨b, off, hA, hb, hc⟩ := hx hp
  refine ⟨b, off, hA, Nat.lt_of_lt_of_le hb hk.size, fun j s hj => ?_⟩
  obtain ⟨h0, h1, iv, h2, h3⟩ := hc j s hj
  exact ⟨h0, hk.cell (p := ⟨b, _, none⟩) hb h1, iv, hk.cell (p := ⟨b, _, none⟩) hb h2, h3.kept hk⟩
/-- a law, as far as cases ask of it -/
def LawM (w : World) (v : Value) (ms : List (List ByteArray)) (scs : List Sc) : Prop :=
  ∃ ev At nt ct sv, v = .agg #[ev, .slice At nt ct, sv] ∧ Enums w ev ms ∧ Scs w sv scs
theorem LawM.kept {w w' : World} {v : Value} {ms : List (List ByteArray)} {scs : List Sc} (h : LawM w v ms scs) (hk : Kept w w') : LawM w' v ms scs := by
  obtain ⟨ev, At, nt, ct, sv, hv, hE, hS⟩ := h
  exact ⟨ev, At, nt, ct, sv, hv, hE.kept hk, hS.kept hk⟩
/-- lists of values -/
def Mems (w : World) (v : Value) (mem : List (List Vl)) : Prop :=
  ∃ A cap, v = .slice A mem.length cap ∧ mem.length ≤ 9223372036854775807 ∧ (0 < mem.length → ∃ b off, A = some ⟨b, off, none⟩ ∧ b < w.heap.size ∧
    ∀ j l, mem[j]? = some l → l.length ≤ 9223372036854775807 ∧ ∃ lv, w.cell? ⟨b, off + j, none⟩ = some lv ∧ Vals w lv l)
theorem Mems.kept {w w' : World} {v : Value} {mem : List (List Vl)} (h : Mems w v mem) (hk : Kept w w') : Mems w' v mem := by
  obtain ⟨A, cap, hv, hl, hx⟩ := h
  refine ⟨A, cap, hv, hl, fun hp => ?_⟩
  obtain ⟨b, off, hA, hb, hc⟩ := hx hp
  refine ⟨b, off, hA, Nat.lt_of_lt_of_le hb hk.size, fun j s hj => ?_⟩
  obtain ⟨h0, lv, h1, h2⟩ := hc j s hj
  exact ⟨h0, lv, hk.cell (p := ⟨b, _, none⟩) hb h1, h2.kept hk⟩
theorem Mems.nil (w : World) : Mems w (.slice none 0 0) [] := ⟨none, 0, rfl, by decide, fun h => absurd h (by simp)⟩
theorem Vals.at_ {w : World} {v : Value} {xs : List Vl} (h : Vals w v xs) : ∃ A cap, v = .slice A xs.length cap ∧ (0 < xs.length → ∃ b off, A = some ⟨b, off, none⟩ ∧ b < w.heap.size ∧
    ∀ j t, xs[j]? = some t → w.cell? ⟨b, off + j * 3, none⟩ = some (.int .i64 t.k) ∧ w.cell? ⟨b, off + j * 3 + 1, none⟩ = some (.int .i64 t.e) ∧ w.cell? ⟨b, off + j * 3 + 2, none⟩ = some (.int .i64 t.n)) := by
  obtain ⟨A, cap, hv, hx⟩ := h
  refine ⟨A, cap, hv, fun hp => ?_⟩
  obtain ⟨b, off, hA, hb, hc⟩ := hx hp
  exact ⟨b, off, hA, hb, fun j t hj => ⟨hc j t hj 0 _ rfl, hc j t hj 1 _ rfl, hc j t hj 2 _ rfl⟩⟩

theorem bne_noC {a b : Int} (h : a ≠ b) : (a != b) = true := by simpa using h
theorem chkF_at {ms : List (List ByteArray)} {ts : List Ty} {vs : List Vl} {i : Nat} {t : Ty} {v : Vl} (h1 : ts[i]? = some t) (h2 : vs[i]? = some v) :
    chkF ms i (ts.drop i) (vs.drop i) = if v.k = t.k ∧ v.e = t.e then (if inB v.n t.k t.e ms then chkF ms (i + 1) (ts.drop (i + 1)) (vs.drop (i + 1)) else (i, 3)) else (i, 8) := by
  obtain ⟨hi, rfl⟩ := List.getElem?_eq_some_iff.1 h1
  obtain ⟨hj, rfl⟩ := List.getElem?_eq_some_iff.1 h2
  rw [List.drop_eq_getElem_cons hi, List.drop_eq_getElem_cons hj, chkF]
theorem chkF_end {ms : List (List ByteArray)} {ts : List Ty} {vs : List Vl} {i : Nat} (h : ¬ i < vs.length) : chkF ms i (ts.drop i) (vs.drop i) = (0, 0) := by
  rw [List.drop_eq_nil_iff.2 (show vs.length ≤ i by omega)]
  cases ts.drop i <;> rfl
def ckPost (R : Nat × Int) (w : World) (e : Ending) (w' : World) : Prop := e = .returned (.tuple #[.int .i64 R.1, .int .i64 R.2]) ∧ Kept w w'
set_option maxRecDepth 100000 in
set_option maxHeartbeats 8000000 in
theorem check_any (ev : Value) (At As : Option Addr) (nt ct ns cs : Nat) (vv iv : Value) (ms : List (List ByteArray)) (ts : List Ty) (vs : List Vl) (w : World) (hE : Enums w ev ms) (hV : Vals w vv vs) (hI : Fds w iv ts) (hl : vs.length ≤ 9223372036854775807) :
    Calls Tryz.prog 34 #[.agg #[ev, .slice At nt ct, .slice As ns cs], vv, iv] w (ckPost (chkV ms ts vs) w) := by
  unfold ckPost
  obtain ⟨AV, cv, rfl, hAV⟩ := hV.at_
  obtain ⟨AI, ci, rfl, hAI⟩ := id hI
  have HBN := Lib.hid (fun (k e : Int) (w1 : World) (hk : Kept w w1) => bounds_any k e ev ms w1 (hE.kept hk))
  obtain ⟨AE, ce, rfl, _, _⟩ := id hE
  by_cases h1 : vs.length < ts.length
  · have HR := Lib.hid (show chkV ms ts vs = (vs.length, 5) by rw [chkV, if_pos h1])
    have h1i : (vs.length : Int) < ts.length := by omega
    rw [HR.out]
    clear hAV hAI hV hI hE h1
    go_enter Tryz.func34, Tryz.ntmps34
    go_wp2_with fail
    go_ret2
    exact ⟨rfl, (Kept.refl _).alloc _⟩
  by_cases h2 : ts.length < vs.length
  · have HR := Lib.hid (show chkV ms ts vs = (ts.length, 4) by rw [chkV, if_neg h1, if_pos h2])
    have h1i : ¬ ((vs.length : Int) < ts.length) := by omega
    have h2i : (ts.length : Int) < vs.length := by omega
    rw [HR.out]
    clear hAV hAI hV hI hE h1 h2
    go_enter Tryz.func34, Tryz.ntmps34
    go_wp2_with fail
    go_ret2
    exact ⟨rfl, (Kept.refl _).alloc _⟩
  have hlen : ts.length = vs.length := by omega
  have HR := Lib.hid (show chkV ms ts vs = chkF ms 0 (ts.drop 0) (vs.drop 0) by rw [chkV, if_neg h1, if_neg h2]; rfl)
  obtain ⟨n, hn⟩ : ∃ n, n = vs.length := ⟨_, rfl⟩
  rw [hlen, ← hn] at hAI
  rw [← hn] at hAV hl
  rw [hlen, ← hn]
  have HN := Lib.hid hn
  have HNT := Lib.hid (hn.trans hlen.symm)
  clear hV hI hE h1 h2 hlen hn
  go_enter Tryz.func34, Tryz.ntmps34
  go_wp2_with fail
  have hBx := Blk.new w 26 #[.slice AE ms.length ce, .slice At nt ct, .slice As ns cs]
  have hKx := (Kept.refl w).alloc (.cells #[.slice AE ms.length ce, .slice At nt ct, .slice As ns cs] 26)
  generalize w.alloc (.cells #[.slice AE ms.length ce, .slice At nt ct, .slice As ns cs] 26) = W at *
  go_loopw [29] (fun y wr => ∃ i : Nat, y = .int .i64 i ∧ i ≤ n ∧ Kept w wr ∧ Blk wr w.heap.size 26 #[.slice AE ms.length ce, .slice At nt ct, .slice As ns cs] ∧ chkF ms i (ts.drop i) (vs.drop i) = chkV ms ts vs) (fun y _ => n - (intOf y).toNat)
  case atStart => exact ⟨0, rfl, Nat.zero_le _, hKx, hBx, HR.out.symm⟩
  case round =>
    obtain ⟨i, rfl, hin, hK, hB, hrun⟩ := hrel
    clear hKx hBx
    by_cases hlt : i < n
    · obtain ⟨b1, o1, rfl, hb1, hc1⟩ := hAV (by omega)
      obtain ⟨b2, o2, rfl, hb2, hc2⟩ := hAI (by omega)
      have hg1 : vs[i]? = some (vs[i]'(by have := HN.out; omega)) := List.getElem?_eq_getElem _
      have hg2 : ts[i]? = some (ts[i]'(by have := HNT.out; omega)) := List.getElem?_eq_getElem _
      obtain ⟨x0, x1, x2⟩ := hc1 i _ hg1
      obtain ⟨y0, y1⟩ := hc2 i _ hg2
      rw [chkF_at hg2 hg1] at hrun
      generalize vs[i]'(by have := HN.out; omega) = V at *
      generalize ts[i]'(by have := HNT.out; omega) = T at *
      have X0 := hK.cell (p := ⟨b1, _, none⟩) hb1 x0
      have X1 := hK.cell (p := ⟨b1, _, none⟩) hb1 x1
      have X2 := hK.cell (p := ⟨b1, _, none⟩) hb1 x2
      have Y0 := hK.cell (p := ⟨b2, _, none⟩) hb2 y0
      have Y1 := hK.cell (p := ⟨b2, _, none⟩) hb2 y1
      have hii : (i : Int) < n := by omega
      have c0 := hB.cell 0
      have cl := hB.lt
      have b1r := Nat.lt_of_lt_of_le hb1 hK.size
      have b2r := Nat.lt_of_lt_of_le hb2 hK.size
      clear x0 x1 x2 y0 y1 hc1 hc2 hg1 hg2 hAV hAI
      obtain ⟨vk, ve, vn⟩ := V
      obtain ⟨tk, te⟩ := T
      dsimp only at hrun X0 X1 X2 Y0 Y1
      by_cases hk1 : vk = tk
      · by_cases hk2 : ve = te
        · subst hk1 hk2
          rw [if_pos ⟨rfl, rfl⟩] at hrun
          have HBB := Lib.hid (HBN.out vk ve)
          have hib : inB vn vk ve ms = (decide ((bndS vk ve ms).1 ≤ vn) && decide (vn ≤ (bndS vk ve ms).2)) := rfl
          rw [hib] at hrun
          generalize bndS vk ve ms = R at *
          obtain ⟨lo, hi⟩ := R
          dsimp only at HBB hrun
          have hself1 : (vk != vk) = false := by simp
          have hself2 : (ve != ve) = false := by simp
          have HB := Lib.hid (fun w2 (h : Kept ((wr.alloc (.cells #[.int .i64 vk, .int .i64 ve, .int .i64 vn] 59)).alloc (.cells #[.int .i64 vk, .int .i64 ve] 46)) w2) => ((hB.alloc (.cells #[.int .i64 vk, .int .i64 ve, .int .i64 vn] 59)).alloc (.cells #[.int .i64 vk, .int .i64 ve] 46)).kept h)
          have hP1 := (Blk.new wr 59 #[.int .i64 vk, .int .i64 ve, .int .i64 vn]).alloc (.cells #[.int .i64 vk, .int .i64 ve] 46)
          have HP := Lib.hid (fun w2 (h : Kept ((wr.alloc (.cells #[.int .i64 vk, .int .i64 ve, .int .i64 vn] 59)).alloc (.cells #[.int .i64 vk, .int .i64 ve] 46)) w2) => (hP1.kept h).cell 2)
          have HKK := Lib.hid ((hK.alloc (.cells #[.int .i64 vk, .int .i64 ve, .int .i64 vn] 59)).alloc (.cells #[.int .i64 vk, .int .i64 ve] 46))
          have hc2 : W.heap.size ≤ W.heap.size := Nat.le_refl _
          clear hP1 hc2
          by_cases hlo : lo ≤ vn
          · have hlo2 : ¬ vn < lo := by omega
            by_cases hhi : vn ≤ hi
            · rw [decide_eq_true hlo, decide_eq_true hhi, if_pos (by decide)] at hrun
              have hhi2 : ¬ hi < vn := by omega
              have HRUN := Lib.hid hrun
              clear hB hrun hib HBN hlo hhi
              go_wp2_with (go_at_call 55; refine (HBB.out _ HKK.out).mono ?_; rintro e w2 ⟨rfl, k2⟩; have p2 := HP.out w2 k2)
              go_roundw
              case rel => exact ⟨i + 1, rfl, hlt, HKK.out.trans k2, HB.out w2 k2, HRUN.out⟩
              case measure => simp [intOf]; omega
            · rw [decide_eq_true hlo, decide_eq_false hhi, if_neg (by decide)] at hrun
              have hhi2 : hi < vn := by omega
              have HRUN := Lib.hid hrun
              clear hB hrun hib HBN hlo hhi
              go_wp2_with (go_at_call 55; refine (HBB.out _ HKK.out).mono ?_; rintro e w2 ⟨rfl, k2⟩; have p2 := HP.out w2 k2)
              go_ret2
              rw [← HRUN.out]
              exact ⟨rfl, HKK.out.trans k2⟩
          · rw [decide_eq_false hlo, Bool.false_and, if_neg (by decide)] at hrun
            have hlo2 : vn < lo := by omega
            have HRUN := Lib.hid hrun
            clear hB hrun hib HBN hlo
            go_wp2_with (go_at_call 55; refine (HBB.out _ HKK.out).mono ?_; rintro e w2 ⟨rfl, k2⟩; have p2 := HP.out w2 k2)
            go_ret2
            rw [← HRUN.out]
            exact ⟨rfl, HKK.out.trans k2⟩
        · subst hk1
          rw [if_neg (fun h => hk2 h.2)] at hrun
          have hself1 : (vk != vk) = false := by simp
          have hb2 := bne_noC hk2
          have HRUN := Lib.hid hrun
          have HKK := Lib.hid ((hK.alloc (.cells #[.int .i64 vk, .int .i64 ve, .int .i64 vn] 59)).alloc (.cells #[.int .i64 vk, .int .i64 te] 46))
          clear hB hrun HBN hk2
          go_wp2_with fail
          go_ret2
          rw [← HRUN.out]
          exact ⟨rfl, HKK.out⟩
      · rw [if_neg (fun h => hk1 h.1)] at hrun
        have hb2 := bne_noC hk1
        have HRUN := Lib.hid hrun
        have HKK := Lib.hid ((hK.alloc (.cells #[.int .i64 vk, .int .i64 ve, .int .i64 vn] 59)).alloc (.cells #[.int .i64 tk, .int .i64 te] 46))
        clear hB hrun HBN hk1
        go_wp2_with fail
        go_ret2
        rw [← HRUN.out]
        exact ⟨rfl, HKK.out⟩
    · have hii : ¬ ((i : Int) < n) := by omega
      rw [chkF_end (by have := HN.out; omega)] at hrun
      have HRUN := Lib.hid hrun
      clear hrun hB
      go_wp2_with fail
      go_ret2
      rw [← HRUN.out]
      exact ⟨rfl, hK⟩
end Go.Proofs.YtemejaomfbhldaaGreatDoor
/- What memberInputs and Validate of package casedata compute. -/
namespace Go.Proofs.YtemejaomfbhldaaGreatDoor
open Go.RowKit

theorem Scs.at_ {w : World} {v : Value} {scs : List Sc} (h : Scs w v scs) : ∃ A cap, v = .slice A scs.length cap ∧ scs.length ≤ 9223372036854775807 ∧ (0 < scs.length → ∃ b off, A = some ⟨b, off, none⟩ ∧ b < w.heap.size ∧
    ∀ j s, scs[j]? = some s → w.cell? ⟨b, off + j * 5 + 1, none⟩ = some (.int .i64 s.m) ∧ ∃ Ai ci, w.cell? ⟨b, off + j * 5 + 2, none⟩ = some (.slice Ai s.ins.length ci) ∧ Fds w (.slice Ai s.ins.length ci) s.ins) := by
  obtain ⟨A, cap, hv, hl, hx⟩ := h
  refine ⟨A, cap, hv, hl, fun hp => ?_⟩
  obtain ⟨b, off, hA, hb, hc⟩ := hx hp
  refine ⟨b, off, hA, hb, fun j s hj => ?_⟩
  obtain ⟨_, h1, iv, h2, h3⟩ := hc j s hj
  obtain ⟨Ai, ci, rfl, _⟩ := id h3
  exact ⟨h1, Ai, ci, h2, h3⟩
def memPost (scs : List Sc) (sc : Nat) (w : World) (e : Ending) (w' : World) : Prop :=
  ∃ iv, e = .returned (.tuple #[iv, .int .i64 (memI scs (scs[sc]?.getD ⟨0, []⟩)).2]) ∧ Fds w' iv (memI scs (scs[sc]?.getD ⟨0, []⟩)).1 ∧ Kept w w'
set_option maxRecDepth 100000 in
set_option maxHeartbeats 4000000 in
theorem memberInputs_any (ev sv : Value) (At : Option Addr) (nt ct : Nat) (scs : List Sc) (sc : Nat) (w : World) (AE : Option Addr) (ne ce : Nat) (hev : ev = .slice AE ne ce) (hS : Scs w sv scs) (hsc : sc < scs.length) :
    Calls Tryz.prog 27 #[.agg #[ev, .slice At nt ct, sv], .int .i64 sc] w (memPost scs sc w) := by
  unfold memPost
  subst hev
  have HS := Lib.hid hS
  obtain ⟨AS, cs, rfl, hsl, hx⟩ := hS.at_
  obtain ⟨b, off, rfl, hb, hc⟩ := hx (by omega)
  have hg : scs[sc]? = some (scs[sc]'hsc) := List.getElem?_eq_getElem hsc
  rw [hg, Option.getD_some]
  obtain ⟨x1, Ai, ci, x2, hF⟩ := hc sc _ hg
  have hK := (Kept.refl w).alloc (.cells #[.slice AE ne ce, .slice At nt ct, .slice (some ⟨b, off, none⟩) scs.length cs] 26)
  have X1 := hK.cell (p := ⟨b, _, none⟩) hb x1
  have hsi : (sc : Int) < scs.length := by omega
  generalize hss : scs[sc] = s at *
  have hK2 := Lib.hid hK
  by_cases hm : s.m < 0 ∨ (scs.length : Int) ≤ s.m
  · have HR := Lib.hid (show memI scs s = ([], 0) by rw [memI, if_pos hm])
    rw [HR.out]
    rcases (show s.m < 0 ∨ (¬ s.m < 0 ∧ (scs.length : Int) ≤ s.m) by omega) with h | ⟨h, h2⟩
    · clear hm hc hx hF x2 hK HS
      go_enter Tryz.func27, Tryz.ntmps27
      go_wp2_with fail
      go_ret2
      exact ⟨_, rfl, Fds.nil _, hK2.out⟩
    · clear hm hc hx hF x2 hK HS
      go_enter Tryz.func27, Tryz.ntmps27
      go_wp2_with fail
      go_ret2
      exact ⟨_, rfl, Fds.nil _, hK2.out⟩
  · obtain ⟨q, hq⟩ : ∃ q : Nat, s.m = q := ⟨s.m.toNat, by omega⟩
    have hqs : q < scs.length := by omega
    have hg2 : scs[q]? = some (scs[q]'hqs) := List.getElem?_eq_getElem hqs
    have HR := Lib.hid (show memI scs s = ((scs[q]'hqs).ins, 8) by rw [memI, if_neg hm, hq, Int.toNat_natCast, hg2]; rfl)
    obtain ⟨_, Aj, cj, y2, hG⟩ := hc q _ hg2
    have Y2 := hK.cell (p := ⟨b, _, none⟩) hb y2
    have HG := Lib.hid (hG.kept hK)
    rw [HR.out]
    generalize scs[q] = s2 at *
    rw [hq] at X1
    have hqi : (q : Int) < scs.length := by omega
    have hqi2 : ¬ ((scs.length : Int) ≤ q) := by omega
    clear hm hc hx hF x1 x2 y2 hK HS hG hq hg hg2 hss hS HR
    go_enter Tryz.func27, Tryz.ntmps27
    go_wp2_with fail
    go_ret2
    exact ⟨_, rfl, HG.out, hK2.out⟩

theorem Mems.at_ {w : World} {v : Value} {mem : List (List Vl)} (h : Mems w v mem) : ∃ A cap, v = .slice A mem.length cap ∧ mem.length ≤ 9223372036854775807 ∧ (0 < mem.length → ∃ b off, A = some ⟨b, off, none⟩ ∧ b < w.heap.size ∧
    ∀ j l, mem[j]? = some l → l.length ≤ 9223372036854775807 ∧ ∃ Ai ci, w.cell? ⟨b, off + j, none⟩ = some (.slice Ai l.length ci) ∧ Vals w (.slice Ai l.length ci) l) := by
  obtain ⟨A, cap, hv, hl, hx⟩ := h
  refine ⟨A, cap, hv, hl, fun hp => ?_⟩
  obtain ⟨b, off, hA, hb, hc⟩ := hx hp
  refine ⟨b, off, hA, hb, fun j l hj => ?_⟩
  obtain ⟨h0, lv, h1, h2⟩ := hc j l hj
  obtain ⟨Ai, ci, rfl, _⟩ := id h2
  exact ⟨h0, Ai, ci, h1, h2⟩
theorem chkM_at {ms : List (List ByteArray)} {ts : List Ty} {mem : List (List Vl)} {i : Nat} {l : List Vl} (h : mem[i]? = some l) :
    chkM ms ts i (mem.drop i) = if (chkV ms ts l).2 = 0 then chkM ms ts (i + 1) (mem.drop (i + 1)) else (i, (chkV ms ts l).1, (chkV ms ts l).2) := by
  obtain ⟨hi, rfl⟩ := List.getElem?_eq_some_iff.1 h
  rw [List.drop_eq_getElem_cons hi, chkM]
theorem chkM_end {ms : List (List ByteArray)} {ts : List Ty} {mem : List (List Vl)} {i : Nat} (h : ¬ i < mem.length) : chkM ms ts i (mem.drop i) = (0, 0, 0) := by
  rw [List.drop_eq_nil_iff.2 (by omega)]; rfl
def valPost (R : Int × Int × Int) (w : World) (e : Ending) (w' : World) : Prop := e = .returned (.tuple #[.int .i64 R.1, .int .i64 R.2.1, .int .i64 R.2.2]) ∧ Kept w w'
set_option maxRecDepth 100000 in
set_option maxHeartbeats 8000000 in
theorem validate_any (lv iv mv : Value) (ms : List (List ByteArray)) (scs : List Sc) (sc d : Int) (ins : List Vl) (mem : List (List Vl)) (w : World) (hL : LawM w lv ms scs) (hI : Vals w iv ins) (hil : ins.length ≤ 9223372036854775807) (hM : Mems w mv mem) :
    Calls Tryz.prog 15 #[lv, .int .i64 sc, .agg #[.int .i64 d, iv, mv]] w (valPost (valC ms scs sc d ins mem) w) := by
  unfold valPost
  obtain ⟨ev, At, nt, ct, sv, rfl, hE, hS⟩ := hL
  obtain ⟨AE, ce, rfl, _, _⟩ := id hE
  obtain ⟨AS, cs, rfl, hsl, hx⟩ := hS.at_
  obtain ⟨AI, ci, rfl, _⟩ := id hI
  obtain ⟨AM, cm, rfl, hml, hmx⟩ := hM.at_
  have K0 := Lib.hid (((Kept.refl w).alloc (.cells #[.slice AE ms.length ce, .slice At nt ct, .slice AS scs.length cs] 26)).alloc (.cells #[.int .i64 d, .slice AI ins.length ci, .slice AM mem.length cm] 30))
  by_cases h1 : sc < 0
  · have HR := Lib.hid (show valC ms scs sc d ins mem = (-1, -1, 6) by rw [valC, if_pos (.inl h1)])
    rw [HR.out]
    clear hE hS hI hM hx hmx
    go_enter Tryz.func15, Tryz.ntmps15
    go_wp2_with fail
    go_ret3
    exact ⟨rfl, K0.out⟩
  by_cases h2 : (scs.length : Int) ≤ sc
  · have HR := Lib.hid (show valC ms scs sc d ins mem = (-1, -1, 6) by rw [valC, if_pos (.inr h2)])
    rw [HR.out]
    clear hE hS hI hM hx hmx
    go_enter Tryz.func15, Tryz.ntmps15
    go_wp2_with fail
    go_ret3
    exact ⟨rfl, K0.out⟩
  have hvc : valC ms scs sc d ins mem = if d < 0 ∨ 109572 < d then (-1, -1, 3) else (if (chkV ms (scs[sc.toNat]?.getD ⟨0, []⟩).ins ins).2 = 0 then
      (if (memI scs (scs[sc.toNat]?.getD ⟨0, []⟩)).2 < mem.length then (((memI scs (scs[sc.toNat]?.getD ⟨0, []⟩)).2 : Int), -1, 4) else chkM ms (memI scs (scs[sc.toNat]?.getD ⟨0, []⟩)).1 0 mem)
    else (-1, ((chkV ms (scs[sc.toNat]?.getD ⟨0, []⟩).ins ins).1 : Int), (chkV ms (scs[sc.toNat]?.getD ⟨0, []⟩).ins ins).2)) := by
    rw [valC, if_neg (by omega)]
  obtain ⟨q, rfl⟩ : ∃ q : Nat, sc = q := ⟨sc.toNat, by omega⟩
  rw [Int.toNat_natCast] at hvc
  have hqs : q < scs.length := by omega
  obtain ⟨b, off, rfl, hb, hc⟩ := hx (by omega)
  have hg : scs[q]? = some (scs[q]'hqs) := List.getElem?_eq_getElem hqs
  obtain ⟨_, Ai, cI, x2, hF⟩ := hc q _ hg
  have hmi := hg
  have HMI := Lib.hid (fun w1 (hk : Kept w w1) => memberInputs_any (.slice AE ms.length ce) (.slice (some ⟨b, off, none⟩) scs.length cs) At nt ct scs q w1 AE ms.length ce rfl (hS.kept hk) hqs)
  unfold memPost at HMI
  rw [hg, Option.getD_some] at hvc HMI
  generalize scs[q] = s at *
  have hsi : (q : Int) < scs.length := by omega
  have hd3 : ¬ (d < 0 ∨ 109572 < d) ∨ (d < 0 ∨ 109572 < d) := by omega
  rcases hd3 with hd | hd
  · rw [if_neg hd] at hvc
    have hd1 : ¬ d < 0 := by omega
    have hd2 : ¬ 109572 < d := by omega
    have HVC := Lib.hid hvc
    have HE := Lib.hid hE
    have HI := Lib.hid hI
    have HF := Lib.hid hF
    have HM := Lib.hid hmx
    clear hvc hE hS hI hM hc hmx hd hmi hg h1 h2 hF hx
    go_enter Tryz.func15, Tryz.ntmps15
    go_wp2_with fail
    have B1 := (Blk.new w 26 #[.slice AE ms.length ce, .slice At nt ct, .slice (some ⟨b, off, none⟩) scs.length cs]).alloc (.cells #[.int .i64 d, .slice AI ins.length ci, .slice AM mem.length cm] 30)
    have B2 := Blk.new (w.alloc (.cells #[.slice AE ms.length ce, .slice At nt ct, .slice (some ⟨b, off, none⟩) scs.length cs] 26)) 30 #[.int .i64 d, .slice AI ins.length ci, .slice AM mem.length cm]
    rw [World.size_alloc] at B2
    have X2 := K0.out.cell (p := ⟨b, _, none⟩) hb x2
    generalize (w.alloc (.cells #[.slice AE ms.length ce, .slice At nt ct, .slice (some ⟨b, off, none⟩) scs.length cs] 26)).alloc (.cells #[.int .i64 d, .slice AI ins.length ci, .slice AM mem.length cm] 30) = W at *
    have hbW := Nat.lt_of_lt_of_le hb K0.out.size
    have HCK := Lib.hid (fun w1 (hk : Kept w w1) => check_any (.slice AE ms.length ce) At (some ⟨b, off, none⟩) nt ct scs.length cs _ _ ms s.ins ins w1 (HE.out.kept hk) (HI.out.kept hk) (HF.out.kept hk) hil)
    unfold ckPost at HCK
    have a0 := KW.cell B1.lt (B1.cell 0)
    have a1 := KW.cell B1.lt (B1.cell 1)
    have a2 := KW.cell B1.lt (B1.cell 2)
    have c0 := KW.cell B2.lt (B2.cell 0)
    have c1 := KW.cell B2.lt (B2.cell 1)
    have c2 := KW.cell B2.lt (B2.cell 2)
    have e0 := KW.cell hbW X2
    refine wp_region_kept (by kernel_rfl) (by kernel_rfl) ?_
    repeat (go_big_quiet_step (first | (go_at_call 34; exact KW.call (HCK.out _ (K0.out.trans (KW.h _))))))
    refine wpQuiet_nil ?_
    rintro w2 ⟨⟨wx, hx2⟩, hh⟩
    obtain rfl : w2 = wx := hh
    have K2 := K0.out.trans hx2
    have D1 := B1.kept hx2
    have D2 := B2.kept hx2
    clear a0 a1 a2 c0 c1 c2 e0 X2 B1 B2 hx2
    have HKK := Lib.hid K2
    have HD1 := Lib.hid D1
    have HD2 := Lib.hid D2
    have d0 := D1.cell 0
    have d1 := D1.cell 1
    have d2 := D1.cell 2
    have dl := D1.lt
    have g2 := D2.cell 2
    have gl := D2.lt
    generalize chkV ms s.ins ins = R at *
    obtain ⟨c1, cc⟩ := R
    dsimp only at HVC ⊢
    clear HCK HF HI K2 D1 D2
    by_cases hcc : cc = 0
    · subst hcc
      rw [if_pos rfl] at HVC
      have HMI2 := Lib.hid (HMI.out w2 HKK.out)
      clear HMI
      generalize memI scs s = I at *
      obtain ⟨its, lim⟩ := I
      dsimp only at HVC HMI2
      by_cases hlim : lim < mem.length
      · rw [if_pos hlim] at HVC
        have hli : (lim : Int) < mem.length := by omega
        clear HM HE
        go_wp2_with (go_at_call 27; refine HMI2.out.mono ?_; rintro e w3 ⟨jv, rfl, hF3, k3⟩; have g2 := (HD2.out.kept k3).cell 2; have gl := (HD2.out.kept k3).lt)
        go_ret3
        rw [HVC.out]
        exact ⟨rfl, HKK.out.trans k3⟩
      · rw [if_neg hlim] at HVC
        have hli : ¬ ((lim : Int) < mem.length) := by omega
        go_wp2_with (go_at_call 27; refine HMI2.out.mono ?_; rintro e w3 ⟨jv, rfl, hF3, k3⟩; have g2 := (HD2.out.kept k3).cell 2; have gl := (HD2.out.kept k3).lt)
        have K3 := HKK.out.trans k3
        have D3 := HD1.out.kept k3
        obtain ⟨n, hn⟩ : ∃ n, n = mem.length := ⟨_, rfl⟩
        rw [← hn] at HM hml ⊢
        have HN := Lib.hid hn
        obtain ⟨Aj, cj, rfl, _⟩ := id hF3
        have HF3 := Lib.hid hF3
        clear hn d0 d1 d2 dl g2 gl HD1 HD2 HMI2 hli hF3
        go_loopw [66] (fun y wr => ∃ i : Nat, y = .int .i64 i ∧ i ≤ n ∧ Kept w3 wr ∧ chkM ms its i (mem.drop i) = chkM ms its 0 mem) (fun y _ => n - (intOf y).toNat)
        case atStart => exact ⟨0, rfl, Nat.zero_le _, Kept.refl _, rfl⟩
        case round =>
          obtain ⟨i, rfl, hin, hK, hrun⟩ := hrel
          have d0 := (D3.kept hK).cell 0
          have d1 := (D3.kept hK).cell 1
          have d2 := (D3.kept hK).cell 2
          have dl := (D3.kept hK).lt
          by_cases hlt : i < n
          · obtain ⟨bm, om, rfl, hbm, hcm⟩ := HM.out (by omega)
            have hgm : mem[i]? = some (mem[i]'(by have := HN.out; omega)) := List.getElem?_eq_getElem _
            rw [chkM_at hgm] at hrun
            obtain ⟨hll, Al, cl, y0, hVl⟩ := hcm i _ hgm
            generalize mem[i]'(by have := HN.out; omega) = l at *
            have hKw := K3.trans hK
            have Y0 := hKw.cell (p := ⟨bm, _, none⟩) hbm y0
            have HCK := Lib.hid (check_any (.slice AE ms.length ce) At (some ⟨b, off, none⟩) nt ct scs.length cs _ _ ms its l wr (HE.out.kept hKw) (hVl.kept hKw) (HF3.out.kept hK) hll)
            unfold ckPost at HCK
            have hii : (i : Int) < n := by omega
            generalize chkV ms its l = R at *
            obtain ⟨q1, q2⟩ := R
            dsimp only at hrun HCK
            clear hcm y0 hVl hgm hll
            by_cases hq : q2 = 0
            · subst hq
              rw [if_pos rfl] at hrun
              have HRUN := Lib.hid hrun
              clear hrun
              go_wp2_with (go_at_call 34; refine HCK.out.mono ?_; rintro e w5 ⟨rfl, k5⟩)
              go_roundw
              case rel => exact ⟨i + 1, rfl, hlt, hK.trans k5, HRUN.out⟩
              case measure => simp [intOf]; omega
            · rw [if_neg hq] at hrun
              have hqb := bne_noC hq
              have HRUN := Lib.hid hrun
              clear hrun hq
              go_wp2_with (go_at_call 34; refine HCK.out.mono ?_; rintro e w5 ⟨rfl, k5⟩)
              go_ret3
              rw [HVC.out, ← HRUN.out]
              exact ⟨rfl, hKw.trans k5⟩
          · have hii : ¬ ((i : Int) < n) := by omega
            rw [chkM_end (by have := HN.out; omega)] at hrun
            have HRUN := Lib.hid hrun
            clear hrun
            go_wp2_with fail
            go_ret3
            rw [HVC.out, ← HRUN.out]
            exact ⟨rfl, K3.trans hK⟩
    · rw [if_neg hcc] at HVC
      have hqb := bne_noC hcc
      clear hcc HMI HM HE
      go_wp2_with fail
      go_ret3
      rw [HVC.out]
      exact ⟨rfl, HKK.out⟩
  · rw [if_pos hd] at hvc
    have HVC := Lib.hid hvc
    rcases (show d < 0 ∨ (¬ d < 0 ∧ 109572 < d) by omega) with h | ⟨h, h2'⟩
    all_goals
      clear hE hS hI hM hc hmx hd HMI hvc h1 h2 hF hx hg hmi
      go_enter Tryz.func15, Tryz.ntmps15
      go_wp2_with fail
      go_ret3
      rw [HVC.out]
      exact ⟨rfl, K0.out⟩
end Go.Proofs.YtemejaomfbhldaaGreatDoor
/- A text that Parse accepts is the text of the case, and the case is valid. -/
namespace Go.Proofs.YtemejaomfbhldaaGreatDoor
open Go.RowKit

theorem spl_text : ∀ (l acc : List UInt8), ∃ x ws, spl acc l = x :: ws ∧ x ++ ws.flatMap (fun w => 32 :: w) = acc ++ l
  | [], acc => ⟨acc, [], rfl, by simp⟩
  | c :: r, acc => by
    rw [spl]
    by_cases h : c = 32
    · rw [if_pos h]
      obtain ⟨x, ws, e, ht⟩ := spl_text r []
      refine ⟨acc, x :: ws, by rw [e], ?_⟩
      rw [List.flatMap_cons, h]
      rw [List.nil_append] at ht
      rw [← ht]; simp
    · rw [if_neg h]
      obtain ⟨x, ws, e, ht⟩ := spl_text r (acc ++ [c])
      exact ⟨x, ws, e, by rw [ht]; simp⟩
theorem vpar_ok {s : ByteArray} {k e : Int} {ms : List (List ByteArray)} (h : (vparS s k e ms).2.2.2 = 0) : ∃ n, vparS s k e ms = (k, e, n, 0) ∧ vtB k e ms = true ∧ inB n k e ms = true ∧ vtext k e n ms = s := by
  unfold vparS at h ⊢
  cases hv : vtB k e ms
  · rw [hv] at h; exact absurd (show (8 : Int) = 0 from h) (by decide)
  · rw [hv, if_pos rfl] at h
    rw [if_pos rfl]
    by_cases hc : (vnumS s k e ms).2 = 0
    · rw [if_pos hc] at h ⊢
      cases hi : inB (vnumS s k e ms).1 k e ms
      · rw [hi] at h; exact absurd (show (3 : Int) = 0 from h) (by decide)
      · exact ⟨_, rfl, rfl, hi, vtext_num hv (Prod.ext rfl hc)⟩
    · rw [if_neg hc] at h; exact absurd h hc
/-- the values that are read: their texts, their types, their bounds -/
theorem parV_ok (ms : List (List ByteArray)) : ∀ (ts : List Ty) (ws : List (List UInt8)) (acc : List Vl), ts.length = ws.length → (parV ms ts ws acc).2 = 0 →
    ∃ vs, (parV ms ts ws acc).1 = acc ++ vs ∧ vs.length = ts.length ∧ (vs.flatMap fun v => 32 :: L (vfmtS v.k v.e v.n ms).1) = ws.flatMap (fun w => 32 :: w) ∧ ∀ i, chkF ms i ts vs = (0, 0)
  | [], [], acc, _, h => ⟨[], by simp [parV], rfl, rfl, fun i => rfl⟩
  | t :: ts, w :: ws, acc, hl, h => by
    rw [parV] at h ⊢
    by_cases hc : (vparS (bs w) t.k t.e ms).2.2.2 = 0
    · rw [if_pos hc] at h ⊢
      obtain ⟨n, hp, hv, hi, ht⟩ := vpar_ok hc
      rw [hp] at h ⊢
      dsimp only at h ⊢
      obtain ⟨vs, e1, e2, e3, e4⟩ := parV_ok ms ts ws _ (by simpa using hl) h
      refine ⟨⟨t.k, t.e, n⟩ :: vs, by rw [e1]; simp, by simp [e2], ?_, fun i => ?_⟩
      · rw [List.flatMap_cons, List.flatMap_cons, e3]
        dsimp only
        rw [show vfmtS t.k t.e n ms = (vtext t.k t.e n ms, 0) by rw [vfmtS, hv, hi]; rfl, ht, L_bs]
      · rw [chkF, if_pos ⟨rfl, rfl⟩]
        dsimp only
        rw [if_pos hi]
        exact e4 (i + 1)
    · rw [if_neg hc] at h; exact absurd h hc
  | [], _ :: _, _, hl, _ => by simp at hl
  | _ :: _, [], _, hl, _ => by simp at hl
theorem parI_ok {ms : List (List ByteArray)} {word : List UInt8} {ts : List Ty} {l : List UInt8} (h : (parI ms word ts l).2 = 0) : lineV ms word (parI ms word ts l).1 = l ∧ chkV ms ts (parI ms word ts l).1 = (0, 0) := by
  obtain ⟨x, ws, e, ht⟩ := spl_text l []
  rw [List.nil_append] at ht
  unfold parI at h ⊢
  rw [e] at h ⊢
  rw [List.head?_cons, List.drop_one, List.tail_cons] at h ⊢
  split at h
  · exact absurd (show (2 : Int) = 0 from h) (by decide)
  · rename_i h1
    split at h
    · exact absurd (show (5 : Int) = 0 from h) (by decide)
    · rename_i h2
      split at h
      · exact absurd (show (4 : Int) = 0 from h) (by decide)
      · rename_i h3
        rw [if_neg h1, if_neg h2, if_neg h3]
        obtain ⟨vs, e1, e2, e3, e4⟩ := parV_ok ms ts ws [] (by omega) h
        rw [e1, List.nil_append]
        have hx : x = word := by
          by_cases hx : x = word
          · exact hx
          · exact absurd (.inl (by simpa using hx)) h1
        refine ⟨by unfold lineV; rw [e3, ← hx]; exact ht, ?_⟩
        unfold chkV
        rw [if_neg (by omega), if_neg (by omega)]
        exact e4 0
theorem parM_ok (ms : List (List ByteArray)) (ts : List Ty) (lim : Nat) : ∀ (ls : List (List UInt8)) (i : Nat) (acc : List (List Vl)), acc.length ≤ lim → (parM ms ts lim i ls acc).2.2 = 0 →
    ∃ mem, (parM ms ts lim i ls acc).1 = acc ++ mem ∧ mem.map (lineV ms [109, 101, 109, 98, 101, 114]) = ls ∧ acc.length + mem.length ≤ lim ∧ ∀ m, chkM ms ts m mem = (0, 0, 0)
  | [], i, acc, ha, h => ⟨[], by rw [parM]; simp, rfl, by simpa using ha, fun m => rfl⟩
  | l :: r, i, acc, ha, h => by
    rw [parM] at h ⊢
    split at h
    · exact absurd (show (4 : Int) = 0 from h) (by decide)
    · rename_i h1
      rw [if_neg h1]
      split at h
      · rename_i h2
        rw [if_pos h2]
        obtain ⟨b1, b2⟩ := parI_ok h2
        obtain ⟨mem, e1, e2, e3, e4⟩ := parM_ok ms ts lim r (i + 1) (acc ++ [(parI ms [109, 101, 109, 98, 101, 114] ts l).1]) (by simp; omega) h
        refine ⟨(parI ms [109, 101, 109, 98, 101, 114] ts l).1 :: mem, by rw [e1]; simp, by rw [List.map_cons, b1, e2], by rw [List.length_append] at e3; simp at e3 ⊢; omega, fun m => ?_⟩
        rw [chkM, b2]
        dsimp only
        rw [if_pos rfl]
        exact e4 (m + 1)
      · rename_i h2
        exact absurd h h2
/-- **a text that is read is the text of the case, which is valid** -/
theorem cs_canon {ms : List (List ByteArray)} {scs : List Sc} {sc : Int} {s : ByteArray} (h : (parCs ms scs sc s).2.2 = 0) :
    valC ms scs sc (parCs ms scs sc s).1.d (parCs ms scs sc s).1.ins (parCs ms scs sc s).1.mem = (0, 0, 0) ∧ bs (textL (caseT ms (parCs ms scs sc s).1.d (parCs ms scs sc s).1.ins (parCs ms scs sc s).1.mem)) = s := by
  unfold parCs at h ⊢
  split at h
  · exact absurd (show (6 : Int) = 0 from h) (by decide)
  · rename_i h1
    rw [if_neg h1]
    split at h
    · rename_i h2; exact absurd h h2
    · rename_i h2
      rw [if_neg h2]
      have hlin : linR s = ((linR s).1, 0) := Prod.ext rfl (by simpa using h2)
      have hcan := linR_canon hlin
      generalize (linR s).1.map L = ls at *
      match ls, h with
      | [], h => exact absurd (show (5 : Int) = 0 from h) (by decide)
      | l0 :: r, h =>
        dsimp only at h ⊢
        split at h
        · exact absurd (show (2 : Int) = 0 from h) (by decide)
        · rename_i h3
          rw [if_neg h3]
          split at h
          · rename_i h4; exact absurd h h4
          · rename_i h4
            rw [if_neg h4]
            match r, h with
            | [], h => exact absurd (show (5 : Int) = 0 from h) (by decide)
            | l1 :: r, h =>
              dsimp only at h ⊢
              split at h
              · rename_i h5; exact absurd h h5
              · rename_i h5
                rw [if_neg h5]
                split at h
                · rename_i h6; exact absurd h h6
                · rename_i h6
                  rw [if_neg h6]
                  dsimp only
                  obtain ⟨x, hx⟩ : ∃ x, scs[sc.toNat]?.getD ⟨0, []⟩ = x := ⟨_, rfl⟩
                  rw [hx] at h5 h6 ⊢
                  obtain ⟨b1, b2⟩ := parI_ok (ms := ms) (word := [105, 110]) (ts := x.ins) (l := l1) (by simpa using h5)
                  obtain ⟨mem, e1, e2, e3, e4⟩ := parM_ok ms (memI scs x).1 (memI scs x).2 r 2 [] (Nat.zero_le _) (by simpa using h6)
                  rw [List.nil_append] at e1
                  rw [e1]
                  have hd : dparS (bs (l0.drop 5)) = ((dparS (bs (l0.drop 5))).1, 0) := Prod.ext rfl (by simpa using h4)
                  obtain ⟨d1, d2⟩ := dparS_canon hd
                  have hdb := isDate_iff.1 d1
                  generalize (parI ms [105, 110] x.ins l1).1 = ins at *
                  generalize (dparS (bs (l0.drop 5))).1 = d at *
                  refine ⟨?_, ?_⟩
                  · unfold valC
                    rw [if_neg h1, if_neg (by omega)]
                    dsimp only
                    rw [hx, b2]
                    dsimp only
                    rw [if_pos rfl, if_neg (by rw [List.length_nil, Nat.zero_add] at e3; omega)]
                    exact e4 0
                  · have hl0 : [100, 97, 116, 101, 32] ++ L (dateS d) = l0 := by
                      rw [d2, L_bs]
                      have h3 : l0.take 5 = datW := by simpa using h3
                      rw [show ([100, 97, 116, 101, 32] : List UInt8) = l0.take 5 from h3.symm, List.take_append_drop]
                    unfold caseT
                    rw [hl0, b1, e2]
                    exact hcan
end Go.Proofs.YtemejaomfbhldaaGreatDoor
/- What writeValues and Format of package casedata compute. -/
namespace Go.Proofs.YtemejaomfbhldaaGreatDoor
open Go.RowKit

theorem bld_keptC {T e : TypeId} {B b : Nat} {l : List Value} {w w' : World} (h : Lib.IsBuilderF T e B b l w) (hk : Kept w w') : Lib.IsBuilderF T e B b l w' := by
  have key : ∀ p, Lib.BuilderAtF T e B b p l w → Lib.BuilderAtF T e B b p l w' := by
    rintro p ⟨hB, v, hb, hown, hne⟩
    have hlt : ∀ {g : Nat} {o : Obj}, w.heap[g]? = some o → g < w.heap.size := fun h => (Array.getElem?_eq_some_iff.1 h).1
    refine ⟨hB, v, (hk.block b (hlt hb)).trans hb, ⟨hown.1, ?_⟩, hne⟩
    rcases hown.2 with hn | ⟨g, cap, cur, fz, hv, hBg, hg, r⟩
    · exact .inl hn
    · exact .inr ⟨g, cap, cur, fz, hv, hBg, (hk.block g (hlt hg)).trans hg, r⟩
  exact h.elim (fun h => .inl (key _ h)) (fun h => .inr (key _ h))
theorem bld_ltC {T e : TypeId} {B b : Nat} {l : List Value} {w : World} (h : Lib.IsBuilderF T e B b l w) : b < w.heap.size ∧ B ≤ b := by
  rcases h with ⟨hB, v, hb, _⟩ | ⟨hB, v, hb, _⟩ <;> exact ⟨(Array.getElem?_eq_some_iff.1 hb).1, hB⟩
theorem Kept.transC {a b c : World} (h : Kept a b) (k : Below a.heap.size b c) : Kept a c := Below.trans h k
theorem bld_otherC {e : TypeId} {b g : Nat} {t : TypeId} {cs : Array Value} {w w' : World} (h : Lib.OthersKept e (some b) w w') (hb : Blk w g t cs) (hg : g ≠ b) (ht : t ≠ e) : Blk w' g t cs :=
  h g _ hb (fun x => hg (Option.some.inj x)) (fun c fz x => by cases x; exact ht rfl)
theorem bytes_appC (a : List UInt8) (s : ByteArray) : Lib.byteCells a ++ Lib.strCells s = Lib.byteCells (a ++ L s) := by
  unfold Lib.byteCells Lib.strCells
  rw [List.map_append]; rfl
theorem bytes_lenC (a : List UInt8) : (Lib.byteCells a).length = a.length := by simp [Lib.byteCells]
noncomputable def wordsV (ms : List (List ByteArray)) (vs : List Vl) : List UInt8 := vs.flatMap fun v => 32 :: L (vfmtS v.k v.e v.n ms).1
theorem lineV_eq (ms : List (List ByteArray)) (word : List UInt8) (vs : List Vl) : lineV ms word vs = word ++ wordsV ms vs := rfl
theorem wordsV_take {ms : List (List ByteArray)} {vs : List Vl} {i : Nat} {v : Vl} (h : vs[i]? = some v) : wordsV ms (vs.take (i + 1)) = wordsV ms (vs.take i) ++ (32 :: L (vfmtS v.k v.e v.n ms).1) := by
  unfold wordsV
  rw [List.take_add_one, h, List.flatMap_append]
  simp
theorem wordsV_le (ms : List (List ByteArray)) (vs : List Vl) (i : Nat) : (wordsV ms (vs.take i)).length ≤ (wordsV ms vs).length := by
  conv => rhs; rw [← List.take_append_drop i vs]
  unfold wordsV
  rw [List.flatMap_append, List.length_append]
  omega
theorem sp_app (X : ByteArray) : L ((⟨#[32]⟩ : ByteArray) ++ X) = 32 :: L X := by rw [L_append]; rfl
def wvPost (w0 : World) (b : Nat) (l : List UInt8) (e : Ending) (w' : World) : Prop :=
  e = .returned (.tuple #[]) ∧ Lib.IsBuilderF 63 5 w0.heap.size b (Lib.byteCells l) w' ∧ Kept w0 w'
set_option maxRecDepth 100000 in
set_option maxHeartbeats 8000000 in
theorem writeVals_any (w0 w : World) (b : Nat) (ev : Value) (At As : Option Addr) (nt ct ns cs : Nat) (vv : Value) (ms : List (List ByteArray)) (vs : List Vl) (word : ByteArray) (l : List UInt8) (hK0 : Kept w0 w) (hE : Enums w0 ev ms) (hV : Vals w0 vv vs)
    (hr : ∀ v ∈ vs, -9223372036854775808 ≤ v.n ∧ v.n ≤ 9223372036854775807) (hvl : vs.length ≤ 9223372036854775807)
    (hb : Lib.IsBuilderF 63 5 w0.heap.size b (Lib.byteCells l) w) (hsz : l.length + ((lineV ms (L word) vs).length + 1) ≤ 1000000000) (hM : Mon w0) (hP : Pow w0) :
    Calls Tryz.prog 18 #[.pointer (some ⟨b, 0, none⟩), .agg #[ev, .slice At nt ct, .slice As ns cs], .string word, vv] w (wvPost w0 b (l ++ (lineV ms (L word) vs ++ [10]))) := by
  unfold wvPost
  obtain ⟨AE, ce, rfl, _, _⟩ := id hE
  obtain ⟨AV, cv, rfl, hAV⟩ := hV.at_
  obtain ⟨hblt, hbB⟩ := bld_ltC hb
  have hws : word.size ≤ (L word).length := Nat.le_of_eq (L_length word).symm
  rw [lineV_eq, List.length_append] at hsz
  have HBW := Lib.hid (bld_keptC hb ((Kept.refl w).alloc (.cells #[.slice AE ms.length ce, .slice At nt ct, .slice As ns cs] 26)))
  have KW0 := Lib.hid (hK0.alloc (.cells #[.slice AE ms.length ce, .slice At nt ct, .slice As ns cs] 26))
  have hw0 : w0.heap.size ≤ w.heap.size := hK0.size
  obtain ⟨n, hn⟩ : ∃ n, n = vs.length := ⟨_, rfl⟩
  rw [← hn] at hAV hvl ⊢
  have HN := Lib.hid hn
  have B0 := Lib.hid (Blk.new w 26 #[.slice AE ms.length ce, .slice At nt ct, .slice As ns cs])
  clear hn hb hV hK0
  go_enter Tryz.func18, Tryz.ntmps18
  go_wp2_with fail
  refine (wstring_k _ _ _ word _ HBW.out (by rw [bytes_lenC]; omega) KW0.out.size).mono ?_
  rintro e w1 ⟨rfl, hb1, hbel1, hoth1⟩
  rw [bytes_appC] at hb1
  have K1 := KW0.out.transC hbel1
  have B1 := bld_otherC hoth1 B0.out (by omega) (by decide)
  have hb1 : Lib.IsBuilderF 63 5 w0.heap.size b (Lib.byteCells (l ++ L word)) w1 := .inr hb1
  have HB1 := Lib.hid hb1
  have K1 := Lib.hid K1
  have B1 := Lib.hid B1
  clear hbel1 hoth1 hb1 HBW KW0 B0
  go_wp2_with fail
  go_loopw [17] (fun y wr => ∃ i : Nat, y = .int .i64 i ∧ i ≤ n ∧ Kept w0 wr ∧ Blk wr w.heap.size 26 #[.slice AE ms.length ce, .slice At nt ct, .slice As ns cs] ∧ Lib.IsBuilderF 63 5 w0.heap.size b (Lib.byteCells (l ++ L word ++ wordsV ms (vs.take i))) wr) (fun y _ => n - (intOf y).toNat)
  case atStart => exact ⟨0, rfl, Nat.zero_le _, K1.out, B1.out, by simpa [wordsV] using HB1.out⟩
  case round =>
    obtain ⟨i, rfl, hin, hK, hB, hbd⟩ := hrel
    have hwl := wordsV_le ms vs i
    by_cases hlt : i < n
    · obtain ⟨b1, o1, rfl, hb1, hc1⟩ := hAV (by omega)
      have hg : vs[i]? = some (vs[i]'(by have := HN.out; omega)) := List.getElem?_eq_getElem _
      obtain ⟨x0, x1, x2⟩ := hc1 i _ hg
      obtain ⟨r1, r2⟩ := hr _ (List.mem_of_getElem? hg)
      have hts := wordsV_take (ms := ms) hg
      have hwl2 := wordsV_le ms vs (i + 1)
      rw [hts, List.length_append, List.length_cons] at hwl2
      generalize vs[i]'(by have := HN.out; omega) = V at *
      obtain ⟨vk, ve, vn⟩ := V
      dsimp only at x0 x1 x2 r1 r2 hts hwl2
      have X0 := hK.cell (p := ⟨b1, _, none⟩) hb1 x0
      have X1 := hK.cell (p := ⟨b1, _, none⟩) hb1 x1
      have X2 := hK.cell (p := ⟨b1, _, none⟩) hb1 x2
      have hb1r := Nat.lt_of_lt_of_le hb1 hK.size
      have hK2 := hK.alloc (.cells #[.int .i64 vk, .int .i64 ve, .int .i64 vn] 59)
      have HVF := Lib.hid (vformat_any vk ve vn (.slice AE ms.length ce) ms _ (hE.kept hK2) r1 r2 (hM.kept hK2) (hP.kept hK2))
      generalize vfmtS vk ve vn ms = R at *
      obtain ⟨X, c⟩ := R
      dsimp only at HVF hts hwl2
      have hXs : X.size ≤ (L X).length := Nat.le_of_eq (L_length X).symm
      have hXb : X.size ≤ 1000000000 := by omega
      have hXc : ¬ (9223372036854775807 < (⟨#[32]⟩ : ByteArray).size + X.size) := by show ¬ (_ < 1 + X.size); omega
      have c0 := hB.cell 0
      have cl := hB.lt
      have hii : (i : Int) < n := by omega
      have HBD := Lib.hid hbd
      have HB := Lib.hid hB
      have HKK := Lib.hid hK2
      have HTS := Lib.hid hts
      have hwk := hK.size
      clear hc1 x0 x1 x2 hg hbd hB hts hK2 hAV
      go_wp2_with (go_at_call 39; refine HVF.out.mono ?_; rintro e w2 ⟨rfl, k2⟩)
      have K2 := HKK.out.trans k2
      have k02 := ((Kept.refl wr).alloc (.cells #[.int .i64 vk, .int .i64 ve, .int .i64 vn] 59)).trans k2
      refine (wstring_k _ _ _ ((⟨#[32]⟩ : ByteArray) ++ X) _ (bld_keptC HBD.out k02) (by rw [bytes_lenC, List.length_append, List.length_append, ByteArray.size_append]; show _ + (1 + _) ≤ _; omega) K2.size).mono ?_
      rintro e w3 ⟨rfl, hb3, hbel3, hoth3⟩
      rw [bytes_appC, sp_app] at hb3
      have B3 := bld_otherC hoth3 (HB.out.kept k02) (by omega) (by decide)
      have HB3 := Lib.hid (show Lib.IsBuilderF 63 5 w0.heap.size b _ w3 from .inr hb3)
      have K3 := K2.transC hbel3
      clear hb3 hoth3
      go_wp2_with fail
      go_roundw
      case rel => exact ⟨i + 1, rfl, hlt, K3, B3, by rw [HTS.out, ← List.append_assoc]; exact HB3.out⟩
      case measure => simp [intOf]; omega
    · have hii : ¬ ((i : Int) < n) := by omega
      rw [List.take_of_length_le (by have := HN.out; omega)] at hbd
      have HBD := Lib.hid hbd
      clear hbd hAV
      go_wp2_with fail
      refine (wstring_k _ _ _ _ _ HBD.out (by rw [bytes_lenC, List.length_append, List.length_append]; show _ + 1 ≤ _; omega) hK.size).mono ?_
      rintro e w3 ⟨rfl, hb3, hbel3, _⟩
      rw [bytes_appC] at hb3
      have HB3 := Lib.hid (show Lib.IsBuilderF 63 5 w0.heap.size b _ w3 from .inr hb3)
      clear hb3
      go_wp2_with fail
      go_end0
      refine ⟨rfl, ?_, hK.transC hbel3⟩
      have := HB3.out
      rw [lineV_eq, ← List.append_assoc, ← List.append_assoc]
      exact this
theorem bnd_rng {k e : Int} {ms : List (List ByteArray)} (hl : ∀ l ∈ ms, l.length ≤ 9223372036854775807) {n : Int} (h : inB n k e ms = true) : -9223372036854775808 ≤ n ∧ n ≤ 9223372036854775807 := by
  have hm : ((memS e ms).length : Int) ≤ 9223372036854775807 := by
    unfold memS
    cases hg : ms[e.toNat]? with
    | none => simp
    | some l => have := hl l (List.mem_of_getElem? hg); simp only [Option.getD_some]; omega
  have hb : -9223372036854775808 ≤ (bndS k e ms).1 ∧ (bndS k e ms).2 ≤ 9223372036854775807 := by
    unfold bndS
    split
    · unfold bndV
      generalize ((memS e ms).length : Int) = q at *
      by_cases h1 : k = 1
      · rw [if_pos h1]; decide
      rw [if_neg h1]
      by_cases h2 : k = 2
      · rw [if_pos h2]; decide
      rw [if_neg h2]
      by_cases h3 : k = 3
      · rw [if_pos h3]; decide
      rw [if_neg h3]
      by_cases h4 : k = 4
      · rw [if_pos h4]; decide
      rw [if_neg h4]
      by_cases h5 : k = 5
      · rw [if_pos h5]; decide
      rw [if_neg h5]
      dsimp only
      omega
    · decide
  unfold inB at h
  rw [Bool.and_eq_true, decide_eq_true_iff, decide_eq_true_iff] at h
  omega
theorem chkF_rng {ms : List (List ByteArray)} (hl : ∀ l ∈ ms, l.length ≤ 9223372036854775807) : ∀ (ts : List Ty) (vs : List Vl) (i : Nat), ts.length = vs.length → (chkF ms i ts vs).2 = 0 → ∀ v ∈ vs, -9223372036854775808 ≤ v.n ∧ v.n ≤ 9223372036854775807
  | [], [], _, _, _ => fun v hv => by simp at hv
  | t :: ts, v :: vs, i, hlen, h => by
    rw [chkF] at h
    by_cases h1 : v.k = t.k ∧ v.e = t.e
    · rw [if_pos h1] at h
      by_cases h2 : inB v.n t.k t.e ms = true
      · rw [if_pos h2] at h
        intro u hu
        rcases List.mem_cons.1 hu with rfl | hu
        · exact bnd_rng hl h2
        · exact chkF_rng hl ts vs (i + 1) (by simpa using hlen) h u hu
      · rw [if_neg h2] at h; exact absurd (show (3 : Int) = 0 from h) (by decide)
    · rw [if_neg h1] at h; exact absurd (show (8 : Int) = 0 from h) (by decide)
  | [], _ :: _, _, hlen, _ => by simp at hlen
  | _ :: _, [], _, hlen, _ => by simp at hlen
theorem chkV_rng {ms : List (List ByteArray)} (hl : ∀ l ∈ ms, l.length ≤ 9223372036854775807) {ts : List Ty} {vs : List Vl} (h : (chkV ms ts vs).2 = 0) : ∀ v ∈ vs, -9223372036854775808 ≤ v.n ∧ v.n ≤ 9223372036854775807 := by
  unfold chkV at h
  split at h
  · exact absurd (show (5 : Int) = 0 from h) (by decide)
  · rename_i h1
    split at h
    · exact absurd (show (4 : Int) = 0 from h) (by decide)
    · rename_i h2
      exact chkF_rng hl ts vs 0 (by omega) h
theorem chkM_rng {ms : List (List ByteArray)} (hl : ∀ l ∈ ms, l.length ≤ 9223372036854775807) {ts : List Ty} : ∀ (mem : List (List Vl)) (m : Nat), (chkM ms ts m mem).2.2 = 0 → ∀ vs ∈ mem, ∀ v ∈ vs, -9223372036854775808 ≤ v.n ∧ v.n ≤ 9223372036854775807
  | [], _, _ => fun vs hv => by simp at hv
  | vs :: r, m, h => by
    rw [chkM] at h
    by_cases h1 : (chkV ms ts vs).2 = 0
    · rw [if_pos h1] at h
      intro u hu
      rcases List.mem_cons.1 hu with rfl | hu
      · exact chkV_rng hl h1
      · exact chkM_rng hl r (m + 1) h u hu
    · rw [if_neg h1] at h; exact absurd h h1
theorem valC_rng {ms : List (List ByteArray)} (hl : ∀ l ∈ ms, l.length ≤ 9223372036854775807) {scs : List Sc} {sc d : Int} {ins : List Vl} {mem : List (List Vl)} (h : (valC ms scs sc d ins mem).2.2 = 0) :
    (∀ v ∈ ins, -9223372036854775808 ≤ v.n ∧ v.n ≤ 9223372036854775807) ∧ ∀ vs ∈ mem, ∀ v ∈ vs, -9223372036854775808 ≤ v.n ∧ v.n ≤ 9223372036854775807 := by
  unfold valC at h
  split at h
  · exact absurd h (by decide)
  · split at h
    · exact absurd h (by decide)
    · dsimp only at h
      split at h
      · rename_i h3
        split at h
        · exact absurd (show (4 : Int) = 0 from h) (by decide)
        · exact ⟨chkV_rng hl h3, chkM_rng hl mem 0 h⟩
      · rename_i h3
        exact absurd h h3
theorem Enums.lens {w : World} {v : Value} {ms : List (List ByteArray)} (h : Enums w v ms) : ∀ l ∈ ms, l.length ≤ 9223372036854775807 := by
  obtain ⟨A, cap, _, _, hx⟩ := h
  intro l hl
  obtain ⟨j, hj⟩ := List.getElem?_of_mem hl
  obtain ⟨b, off, _, _, hc⟩ := hx (by have := (List.getElem?_eq_some_iff.1 hj).1; omega)
  exact (hc j l hj).1
/-- the lines of a case behind its date -/
noncomputable def txtI (ms : List (List ByteArray)) (d : Int) (ins : List Vl) (mem : List (List Vl)) (i : Nat) : List UInt8 := textL (caseT ms d ins (mem.take i))
theorem txtI_zero (ms : List (List ByteArray)) (d : Int) (ins : List Vl) (mem : List (List Vl)) : txtI ms d ins mem 0 = ([100, 97, 116, 101, 32] ++ L (dateS d) ++ [10]) ++ (lineV ms [105, 110] ins ++ [10]) := by
  unfold txtI caseT textL
  simp
theorem txtI_succ {ms : List (List ByteArray)} {d : Int} {ins : List Vl} {mem : List (List Vl)} {i : Nat} {l : List Vl} (h : mem[i]? = some l) : txtI ms d ins mem (i + 1) = txtI ms d ins mem i ++ (lineV ms [109, 101, 109, 98, 101, 114] l ++ [10]) := by
  unfold txtI caseT textL
  rw [List.take_add_one, h]
  simp
theorem txtI_le (ms : List (List ByteArray)) (d : Int) (ins : List Vl) (mem : List (List Vl)) (i : Nat) : (txtI ms d ins mem i).length ≤ (textL (caseT ms d ins mem)).length := by
  have e : textL (caseT ms d ins mem) = txtI ms d ins mem i ++ textL ((mem.drop i).map (lineV ms [109, 101, 109, 98, 101, 114])) := by
    conv => lhs; rw [← List.take_append_drop i mem]
    unfold txtI caseT textL
    rw [List.map_append, ← List.cons_append, ← List.cons_append, List.flatMap_append]
  rw [e, List.length_append]
  omega
theorem dl_L (D : ByteArray) : L (⟨#[100, 97, 116, 101, 32]⟩ ++ D ++ ⟨#[10]⟩) = [100, 97, 116, 101, 32] ++ L D ++ [10] := by rw [L_append, L_append]; rfl
theorem dl_size (D : ByteArray) : (⟨#[100, 97, 116, 101, 32]⟩ ++ D ++ ⟨#[10]⟩ : ByteArray).size = 5 + D.size + 1 := by rw [ByteArray.size_append, ByteArray.size_append]; rfl
def cfPost (R : ByteArray × Int) (w : World) (e : Ending) (w' : World) : Prop := e = .returned (.tuple #[.string R.1, .int .i64 R.2]) ∧ Kept w w'
set_option maxRecDepth 100000 in
set_option maxHeartbeats 8000000 in
theorem cformat_any (lv iv mv : Value) (ms : List (List ByteArray)) (scs : List Sc) (sc d : Int) (ins : List Vl) (mem : List (List Vl)) (w : World) (hL : LawM w lv ms scs) (hI : Vals w iv ins) (hil : ins.length ≤ 9223372036854775807) (hM : Mems w mv mem)
    (hsz : (valC ms scs sc d ins mem).2.2 = 0 → (textL (caseT ms d ins mem)).length ≤ 1000000000) (hMo : Mon w) (hP : Pow w) :
    Calls Tryz.prog 8 #[lv, .int .i64 sc, .agg #[.int .i64 d, iv, mv]] w (cfPost (fmtCs ms scs sc d ins mem) w) := by
  unfold cfPost
  have HVA := Lib.hid (fun w1 (h : Kept w w1) => validate_any lv iv mv ms scs sc d ins mem w1 (hL.kept h) (hI.kept h) hil (hM.kept h))
  unfold valPost at HVA
  obtain ⟨ev, At, nt, ct, sv, rfl, hE, hS⟩ := hL
  have HRG := Lib.hid (valC_rng (scs := scs) (sc := sc) (d := d) (ins := ins) (mem := mem) hE.lens)
  obtain ⟨AE, ce, rfl, _, _⟩ := id hE
  obtain ⟨AS, cs, rfl, _, _⟩ := id hS
  obtain ⟨AI, ci, rfl, _⟩ := id hI
  obtain ⟨AM, cm, rfl, hml, hmx⟩ := hM.at_
  have HFC := Lib.hid (show fmtCs ms scs sc d ins mem = if (valC ms scs sc d ins mem).2.2 = 0 then (bs (textL (caseT ms d ins mem)), 0) else (⟨#[]⟩, (valC ms scs sc d ins mem).2.2) from rfl)
  generalize fmtCs ms scs sc d ins mem = RR at *
  generalize valC ms scs sc d ins mem = V at *
  obtain ⟨v0, v1, vc⟩ := V
  dsimp only at HVA HRG HFC hsz
  have K0 := Lib.hid (((Kept.refl w).alloc (.cells #[.slice AE ms.length ce, .slice At nt ct, .slice AS scs.length cs] 26)).alloc (.cells #[.int .i64 d, .slice AI ins.length ci, .slice AM mem.length cm] 30))
  by_cases hvc : vc = 0
  · subst hvc
    have hsz := hsz rfl
    have HF := Lib.hid (HFC.out.trans (if_pos rfl))
    obtain ⟨hrI, hrM⟩ := HRG.out rfl
    have hE := Lib.hid hE
    have hI := Lib.hid hI
    clear HFC HRG hS hM
    obtain ⟨n, hn⟩ : ∃ n, n = mem.length := ⟨_, rfl⟩
    rw [← hn] at hmx hml HVA K0 ⊢
    have HN := Lib.hid hn
    clear hn
    have hl0 := txtI_le ms d ins mem 0
    rw [txtI_zero, List.length_append, List.length_append] at hl0
    go_enter Tryz.func8, Tryz.ntmps8
    have hds : (dateS d).size ≤ (L (dateS d)).length := Nat.le_of_eq (L_length _).symm
    simp only [List.length_append, List.length_cons, List.length_nil] at hl0
    have hdb : (dateS d).size ≤ 1000000000 := by omega
    have HDL := Lib.hid (dl_L (dateS d))
    have HCS := Lib.hid (dl_size (dateS d))
    have HT0 := Lib.hid (txtI_zero ms d ins mem)
    have HDF := Lib.hid (fun w1 h1 h2 => format_any d w1 h1 h2)
    generalize dateS d = D at *
    go_wp2_with (first
      | (go_at_call 15; refine (HVA.out _ K0.out).mono ?_; rintro e w1 ⟨rfl, k1⟩; obtain ⟨B1, B2⟩ := k1.blk2; have b20 := B2.cell 0; have b2l := B2.lt; have K1 := K0.out.trans k1)
      | (go_at_call 17; refine (HDF.out _ (hMo.kept (K1.alloc _)) (hP.kept (K1.alloc _))).mono ?_; rintro e w3 ⟨rfl, k3⟩))
    have hb0 : Lib.IsBuilderF 63 5 w1.heap.size w1.heap.size (Lib.byteCells []) (w1.alloc (.cells #[.pointer none, .slice none 0 0] 63)) :=
      .inl ⟨Nat.le_refl _, _, heap_alloc_new w1 _, World.ownsRowF_nil _ _ _ _, by simp [Value.ownBlock]⟩
    have k13 : Kept w1 w3 := ((Kept.refl w1).alloc _).trans k3
    have hb3 := bld_keptC hb0 k3
    have hsz3 : (Lib.byteCells []).length + (⟨#[100, 97, 116, 101, 32]⟩ ++ D ++ ⟨#[10]⟩ : ByteArray).size ≤ 140737488355328 := by
      rw [bytes_lenC, HCS.out, List.length_nil]; omega
    have hwz := k13.size
    have hws := wstring_k w1.heap.size w1.heap.size (Lib.byteCells []) (⟨#[100, 97, 116, 101, 32]⟩ ++ D ++ ⟨#[10]⟩) w3 hb3 hsz3 hwz
    refine hws.mono ?_
    rintro e w4 ⟨rfl, hb4, hbel4, _⟩
    rw [bytes_appC, List.nil_append, HDL.out] at hb4
    have HB4 := Lib.hid (show Lib.IsBuilderF 63 5 w1.heap.size w1.heap.size _ w4 from .inr hb4)
    have k14 := k13.transC hbel4
    have M1 := B1.kept k14
    have M2 := B2.kept k14
    have m10 := M1.cell 0
    have m11 := M1.cell 1
    have m12 := M1.cell 2
    have m1l := M1.lt
    have m21 := M2.cell 1
    have m2l := M2.lt
    clear hb4 hb0 k3 hbel4 b20 b2l M1 M2
    go_wp2_with fail
    have hE1 := hE.out.kept K1
    have hI1 := hI.out.kept K1
    have hs1 : ([100, 97, 116, 101, 32] ++ L D ++ [10] : List UInt8).length + ((lineV ms (L ⟨#[105, 110]⟩) ins).length + 1) ≤ 1000000000 := by
      rw [show L ⟨#[105, 110]⟩ = [105, 110] from rfl]
      simp only [List.length_append, List.length_cons, List.length_nil]
      omega
    have hwv := writeVals_any w1 w4 w1.heap.size (.slice AE ms.length ce) At AS nt ct scs.length cs (.slice AI ins.length ci) ms ins ⟨#[105, 110]⟩ _ k14 hE1 hI1 hrI hil HB4.out hs1 (hMo.kept K1) (hP.kept K1)
    unfold wvPost at hwv
    rw [show L ⟨#[105, 110]⟩ = [105, 110] from rfl, ← HT0.out] at hwv
    have HWV := Lib.hid hwv
    clear hwv hs1 hI1 HB4 HDL HCS HT0 HDF m10 m11 m12 m1l m21 m2l
    refine HWV.out.mono ?_
    rintro e w5 ⟨rfl, hb5, k15⟩
    have M2 := B2.kept k15
    have m22 := M2.cell 2
    have m2l := M2.lt
    have HB5 := Lib.hid hb5
    clear hb5 M2 HWV
    go_wp2_with fail
    go_loopw [38] (fun y wr => ∃ i : Nat, y = .int .i64 i ∧ i ≤ n ∧ Kept w1 wr ∧ Lib.IsBuilderF 63 5 w1.heap.size w1.heap.size (Lib.byteCells (txtI ms d ins mem i)) wr) (fun y _ => n - (intOf y).toNat)
    case atStart => exact ⟨0, rfl, Nat.zero_le _, k15, HB5.out⟩
    case round =>
      obtain ⟨i, rfl, hin, hK, hbd⟩ := hrel
      have HBD := Lib.hid hbd
      clear hbd m22 m2l HB5
      by_cases hlt : i < n
      · obtain ⟨bm, om, rfl, hbm, hcm⟩ := hmx (by omega)
        have hg : mem[i]? = some (mem[i]'(by have := HN.out; omega)) := List.getElem?_eq_getElem _
        obtain ⟨hll, Al, cl, y0, hVl⟩ := hcm i _ hg
        have hrl := hrM _ (List.mem_of_getElem? hg)
        have hts := txtI_succ (ms := ms) (d := d) (ins := ins) hg
        have htl := txtI_le ms d ins mem (i + 1)
        rw [hts, List.length_append, List.length_append, List.length_singleton] at htl
        generalize mem[i]'(by have := HN.out; omega) = l at *
        have hKw := K1.trans hK
        have Y0 := hKw.cell (p := ⟨bm, _, none⟩) hbm y0
        have hb2 := Nat.lt_of_lt_of_le hbm hKw.size
        have hii : (i : Int) < n := by omega
        have M1 := B1.kept hK
        have m10 := M1.cell 0
        have m11 := M1.cell 1
        have m12 := M1.cell 2
        have m1l := M1.lt
        have hwv := writeVals_any w1 wr w1.heap.size (.slice AE ms.length ce) At AS nt ct scs.length cs (.slice Al l.length cl) ms l ⟨#[109, 101, 109, 98, 101, 114]⟩ _ hK hE1 (hVl.kept K1) hrl hll HBD.out (by rw [show L ⟨#[109, 101, 109, 98, 101, 114]⟩ = [109, 101, 109, 98, 101, 114] from rfl]; omega) (hMo.kept K1) (hP.kept K1)
        unfold wvPost at hwv
        rw [show L ⟨#[109, 101, 109, 98, 101, 114]⟩ = [109, 101, 109, 98, 101, 114] from rfl, ← hts] at hwv
        have HWV := Lib.hid hwv
        clear hwv hcm y0 hVl hg hll hts htl hrl M1
        go_wp2_with fail
        refine HWV.out.mono ?_
        rintro e w6 ⟨rfl, hb6, k16⟩
        have HB6 := Lib.hid hb6
        clear hb6
        go_wp2_with fail
        go_roundw
        case rel => exact ⟨i + 1, rfl, hlt, k16, HB6.out⟩
        case measure => simp [intOf]; omega
      · have hii : ¬ ((i : Int) < n) := by omega
        have hte : txtI ms d ins mem i = textL (caseT ms d ins mem) := by
          unfold txtI
          rw [List.take_of_length_le (by have := HN.out; omega)]
        have HTE := Lib.hid hte
        clear hte
        go_wp2_with (go_at_call 19; refine (Tryz.Builder_String_any_k _ _ _ _ HBD.out hK.size).mono ?_; rintro e w7 ⟨rfl, hb7, hbl7, _⟩)
        go_ret2
        rw [HF.out, HTE.out]
        exact ⟨rfl, K1.trans (hK.transC hbl7)⟩
  · have HF := Lib.hid (HFC.out.trans (if_neg hvc))
    have hne := bne_noC hvc
    clear HFC HRG hS hM hvc hsz hE hI hmx
    go_enter Tryz.func8, Tryz.ntmps8
    go_wp2_with (go_at_call 15; refine (HVA.out _ K0.out).mono ?_; rintro e w1 ⟨rfl, k1⟩)
    go_ret2
    rw [HF.out]
    exact ⟨rfl, K0.out.trans k1⟩
end Go.Proofs.YtemejaomfbhldaaGreatDoor
/- A text split at each blank, and what slices.Contains and slices.Index tell of a list of strings. -/
namespace Go.Proofs.YtemejaomfbhldaaGreatDoor
open Go.RowKit

theorem spl_app : ∀ (a acc r : List UInt8), 32 ∉ a → spl acc (a ++ 32 :: r) = (acc ++ a) :: spl [] r
  | [], acc, r, _ => by rw [List.nil_append, spl, if_pos rfl, List.append_nil]
  | c :: a, acc, r, h => by
    rw [List.cons_append, spl, if_neg (fun e => h (by rw [e]; simp)), spl_app a (acc ++ [c]) r (fun hm => h (List.mem_cons_of_mem _ hm)), List.append_assoc]
    rfl
theorem spl_no : ∀ (l acc : List UInt8), 32 ∉ l → spl acc l = [acc ++ l]
  | [], acc, _ => by rw [spl, List.append_nil]
  | c :: l, acc, h => by
    rw [spl, if_neg (fun e => h (by rw [e]; simp)), spl_no l (acc ++ [c]) (fun hm => h (List.mem_cons_of_mem _ hm)), List.append_assoc]
    rfl
theorem idxB (s : ByteArray) : Lib.indexB s ⟨#[32]⟩ = Lib.indexByte (L s) 32 := Lib.one s ⟨#[32]⟩ rfl
theorem split_spl : ∀ (k : Nat) (s : ByteArray), Lib.countB s ⟨#[32]⟩ = k → (Lib.splitB ⟨#[32]⟩ 0 k s).map L = spl [] (L s) := by
  intro k
  induction k with
  | zero =>
    intro s hk
    rcases Lib.indexB_cases s ⟨#[32]⟩ with h | ⟨i, h, _⟩
    · rw [Lib.splitB_miss _ _ _ _ h]
      rw [idxB] at h
      have h2 := Lib.indexByte_none h
      rw [spl_no _ _ (fun hm => by
        obtain ⟨j, hj⟩ := List.getElem?_of_mem hm
        exact h2 j hj)]
      rfl
    · rw [Lib.countB_hit s ⟨#[32]⟩ i (Nat.le_refl _) h] at hk; omega
  | succ k ih =>
    intro s hk
    rcases Lib.indexB_cases s ⟨#[32]⟩ with h | ⟨i, h, hi⟩
    · rw [Lib.countB_miss s _ h] at hk; omega
    · rw [Lib.countB_hit s ⟨#[32]⟩ i (Nat.le_refl _) h] at hk
      rw [Lib.splitB_hit _ _ _ _ i h, List.map_cons, ih _ (by omega)]
      rw [idxB] at h
      obtain ⟨h1, h2⟩ := Lib.indexByte_some h
      have hs1 : (⟨#[32]⟩ : ByteArray).size = 1 := rfl
      have hil : i < (L s).length := (List.getElem?_eq_some_iff.1 h1).1
      have e1 : L s = (L s).take i ++ 32 :: (L s).drop (i + 1) := by
        conv => lhs; rw [← List.take_append_drop i (L s)]
        rw [List.drop_eq_getElem_cons hil]
        congr 2
        exact (List.getElem?_eq_some_iff.1 h1).2
      have e2 : L (s.extract 0 (i + 0)) = (L s).take i := by rw [L_extract]; simp
      have e3 : L (s.extract (i + (⟨#[32]⟩ : ByteArray).size) s.size) = (L s).drop (i + 1) := by
        rw [L_extract, hs1, List.take_of_length_le (by rw [List.length_drop, L_length]; omega)]
      rw [e2, e3]
      conv => rhs; rw [e1]
      rw [spl_app _ _ _ (fun hm => by
        obtain ⟨j, hj⟩ := List.getElem?_of_mem hm
        have hjl := (List.getElem?_eq_some_iff.1 hj).1
        rw [List.length_take] at hjl
        rw [List.getElem?_take_of_lt (by omega)] at hj
        exact h2 j (by omega) hj)]
      rfl
theorem Strs.at3 {w : World} {v : Value} {xs : List ByteArray} (h : Strs w v xs) : ∃ A cap, v = .slice A xs.length cap ∧ (0 < xs.length → ∃ b off, A = some ⟨b, off, none⟩ ∧ b < w.heap.size ∧ ∀ (j : Nat) x, xs[j]? = some x → w.cell? ⟨b, off + j, none⟩ = some (.string x)) := by
  obtain ⟨A, cap, hv, hx⟩ := h
  refine ⟨A, cap, hv, fun hp => ?_⟩
  obtain ⟨b, off, hA, hb, hc⟩ := hx hp
  refine ⟨b, off, hA, hb, fun j x hj => ?_⟩
  have := hc j (List.getElem?_eq_some_iff.1 hj).1
  rwa [hj, Option.getD_some] at this
theorem neqS (X Y : ByteArray) : (X.toList == Y.toList) = decide (X = Y) := by
  rw [toList_L, toList_L]
  by_cases h : X = Y
  · subst h; simp
  · rw [decide_eq_false h]
    simpa using fun e => h (L_inj.1 e)
/-- where a text stands first in a list -/
def idxS (s : ByteArray) (xs : List ByteArray) : Int := match findS s xs 0 with | some i => (i : Int) | none => -1
theorem findS_from {s : ByteArray} : ∀ (xs : List ByteArray) (i p : Nat), xs[p]? = some s → (∀ m, m < p → xs[m]? ≠ some s) → findS s xs i = some (i + p)
  | [], i, p, h, _ => by simp at h
  | x :: r, i, p, h, hn => by
    rw [findS]
    cases p with
    | zero => rw [if_pos (Option.some.inj h)]; rfl
    | succ p =>
      rw [if_neg (fun e => hn 0 (by omega) (by rw [e]; rfl)), findS_from r (i + 1) p (by simpa using h) (fun m hm => by have := hn (m + 1) (by omega); simpa using this)]
      congr 1; omega
theorem findS_no {s : ByteArray} : ∀ (xs : List ByteArray) (i : Nat), (∀ m, m < xs.length → xs[m]? ≠ some s) → findS s xs i = none
  | [], i, _ => rfl
  | x :: r, i, hn => by
    rw [findS, if_neg (fun e => hn 0 (by simp) (by rw [e]; rfl)), findS_no r (i + 1) (fun m hm => by have := hn (m + 1) (by rw [List.length_cons]; omega); simpa using this)]
theorem idxS_at {s : ByteArray} {xs : List ByteArray} {p : Nat} (h : xs[p]? = some s) (hn : ∀ m, m < p → xs[m]? ≠ some s) : idxS s xs = p := by
  rw [idxS, findS_from xs 0 p h hn, Nat.zero_add]
theorem idxS_end {s : ByteArray} {xs : List ByteArray} (hn : ∀ m, m < xs.length → xs[m]? ≠ some s) : idxS s xs = -1 := by
  rw [idxS, findS_no xs 0 hn]
theorem idxS_in {s : ByteArray} {xs : List ByteArray} (h : s ∈ xs) : 0 ≤ idxS s xs := by
  unfold idxS
  cases hf : findS s xs 0 with
  | none =>
    obtain ⟨j, hj⟩ := List.getElem?_of_mem h
    exact absurd hj (findS_none hf j)
  | some p => show (0 : Int) ≤ (p : Nat); omega
theorem idxS_out {s : ByteArray} {xs : List ByteArray} (h : s ∉ xs) : idxS s xs = -1 :=
  idxS_end fun _ _ e => h (List.mem_of_getElem? e)
set_option maxRecDepth 100000 in
set_option maxHeartbeats 1000000 in
theorem index_any (v : Value) (xs : List ByteArray) (s : ByteArray) (w : World) (hS : Strs w v xs) (hl : xs.length ≤ 9223372036854775807) : Calls Tryz.prog 74 #[v, .string s] w fun e w' => e = .returned (.int .i64 (idxS s xs)) ∧ w = w' := by
  obtain ⟨A, cap, rfl, hA⟩ := hS.at3
  obtain ⟨n, hn⟩ : ∃ n, n = xs.length := ⟨_, rfl⟩
  rw [← hn] at hA hl ⊢
  have HN := Lib.hid hn
  clear hn hS
  go_enter Tryz.func74, Tryz.ntmps74
  go_wp2_with fail
  go_loopw [8] (fun z wr => ∃ p : Nat, z = .int .i64 p ∧ p ≤ n ∧ w = wr ∧ (∀ m, m < p → xs[m]? ≠ some s)) (fun z _ => n - (intOf z).toNat)
  case atStart => exact ⟨0, rfl, Nat.zero_le _, rfl, fun _ h => by omega⟩
  case round =>
    obtain ⟨p, rfl, hpn, rfl, hno⟩ := hrel
    by_cases hp : p < n
    · obtain ⟨b1, o1, rfl, hb1, hc1⟩ := hA (by omega)
      have hg : xs[p]? = some (xs[p]'(by have := HN.out; omega)) := List.getElem?_eq_getElem _
      have X0 := hc1 p _ hg
      generalize xs[p]'(by have := HN.out; omega) = X at *
      have hpi : (p : Int) < n := by omega
      have heq := neqS s X
      clear hc1
      by_cases hx : s = X
      · subst hx
        rw [decide_eq_true rfl] at heq
        have HR := Lib.hid (idxS_at hg hno)
        clear hg hno
        go_wp2_with fail
        go_ret
        rw [HR.out]
        exact ⟨rfl, rfl⟩
      · rw [decide_eq_false hx] at heq
        have HNO := Lib.hid (show ∀ m, m < p + 1 → xs[m]? ≠ some s from fun m hm => by
          by_cases h : m = p
          · subst h; rw [hg]; exact fun e => hx (Option.some.inj e).symm
          · exact hno m (by omega))
        clear hg hno hx
        go_wp2_with fail
        go_roundw
        case rel => exact ⟨p + 1, rfl, hp, trivial, HNO.out⟩
        case measure => simp [intOf]; omega
    · obtain rfl : n = p := by omega
      have hpi : ¬ ((n : Int) < n) := by omega
      have HR := Lib.hid (idxS_end (s := s) (xs := xs) (by rw [← HN.out]; exact hno))
      clear hno hA
      go_wp2_with fail
      go_ret
      rw [HR.out]
      exact ⟨rfl, rfl⟩
theorem contains_any (v : Value) (xs : List ByteArray) (s : ByteArray) (w : World) (hS : Strs w v xs) (hl : xs.length ≤ 9223372036854775807) : Calls Tryz.prog 49 #[v, .string s] w fun e w' => e = .returned (.bool (decide (0 ≤ idxS s xs))) ∧ w = w' := by
  have HI := Lib.hid (index_any v xs s w hS hl)
  generalize idxS s xs = q at *
  clear hS hl
  go_enter Tryz.func49, Tryz.ntmps49
  go_wp2_with (go_at_call 74; refine HI.out.mono ?_; rintro e w' ⟨rfl, rfl⟩)
  go_ret
  exact ⟨rfl, rfl⟩
end Go.Proofs.YtemejaomfbhldaaGreatDoor
/- What parseValues of package casedata computes. -/
namespace Go.Proofs.YtemejaomfbhldaaGreatDoor
open Go.RowKit

/-- the variable internal/bytealg.MaxLen holds some integer -/
def MaxV (w : World) : Prop := ∃ m, w.cell? ⟨1, 0, none⟩ = some (.int .i64 m)
theorem MaxV.kept {w w' : World} (h : MaxV w) (hk : Kept w w') : MaxV w' := by
  obtain ⟨m, hm⟩ := h
  refine ⟨m, hk.cell (p := ⟨1, 0, none⟩) ?_ hm⟩
  rcases Nat.lt_or_ge 1 w.heap.size with hlt | hge
  · exact hlt
  · simp [World.cell?, Array.getElem?_eq_none hge] at hm
theorem splitB_sizesC : ∀ (k : Nat) (s : ByteArray) (n : Nat), s.size ≤ n → ∀ x ∈ Lib.splitB ⟨#[32]⟩ 0 k s, x.size ≤ n
  | 0, s, n, hn, x, hx => by
    rw [Lib.splitB_zero] at hx
    obtain rfl : x = s := by simpa using hx
    exact hn
  | k + 1, s, n, hn, x, hx => by
    rw [Lib.splitB] at hx
    split at hx
    · obtain rfl : x = s := by simpa using hx
      exact hn
    · rcases List.mem_cons.1 hx with rfl | hx
      · rw [ByteArray.size_extract]; omega
      · exact splitB_sizesC k _ n (by rw [ByteArray.size_extract]; omega) x hx
/-- a line with a word, or without -/
theorem line_cases (line word : List UInt8) (hw : 32 ∉ word) : (line = word ∧ spl [] line = [word]) ∨
    (line ≠ word ∧ Lib.hasPrefix line (word ++ [32]) = false ∧ (spl [] line).head? ≠ some word) ∨
    (line ≠ word ∧ Lib.hasPrefix line (word ++ [32]) = true ∧ ∃ r, Lib.trimPrefix line (word ++ [32]) = r ∧ r.length ≤ line.length ∧ spl [] line = word :: spl [] r) := by
  by_cases h : line = word
  · subst h
    left
    exact ⟨rfl, by rw [spl_no _ _ hw]; rfl⟩
  · right
    cases hp : Lib.hasPrefix line (word ++ [32])
    · left
      refine ⟨h, rfl, fun hh => ?_⟩
      obtain ⟨x, ws, h1, h2⟩ := spl_text line []
      rw [h1] at hh
      obtain rfl : x = word := Option.some.inj hh
      cases ws with
      | nil => exact h (by simpa using h2.symm)
      | cons y ys =>
        have : Lib.hasPrefix line (x ++ [32]) = true := by
          unfold Lib.hasPrefix
          rw [List.isPrefixOf_iff_prefix]
          refine ⟨y ++ ys.flatMap (fun w => 32 :: w), ?_⟩
          rw [List.flatMap_cons] at h2
          simpa using h2
        rw [hp] at this; cases this
    · right
      have hpre : (word ++ [32]) <+: line := by
        unfold Lib.hasPrefix at hp
        rwa [List.isPrefixOf_iff_prefix] at hp
      obtain ⟨r, hr⟩ := hpre
      refine ⟨h, rfl, r, ?_, ?_, ?_⟩
      · rw [Lib.trimPrefix, if_pos hp, ← hr, List.drop_left]
      · rw [← hr, List.length_append]; omega
      · rw [← hr, List.append_assoc]
        exact spl_app word [] r hw
theorem parV_at {ms : List (List ByteArray)} {ts : List Ty} {ws : List (List UInt8)} {acc : List Vl} {i : Nat} {t : Ty} {l : List UInt8} (h1 : ts[i]? = some t) (h2 : ws[i]? = some l) :
    parV ms (ts.drop i) (ws.drop i) acc = if (vparS (bs l) t.k t.e ms).2.2.2 = 0 then parV ms (ts.drop (i + 1)) (ws.drop (i + 1)) (acc ++ [⟨(vparS (bs l) t.k t.e ms).1, (vparS (bs l) t.k t.e ms).2.1, (vparS (bs l) t.k t.e ms).2.2.1⟩]) else ([], (vparS (bs l) t.k t.e ms).2.2.2) := by
  obtain ⟨hi, rfl⟩ := List.getElem?_eq_some_iff.1 h1
  obtain ⟨hj, rfl⟩ := List.getElem?_eq_some_iff.1 h2
  rw [List.drop_eq_getElem_cons hi, List.drop_eq_getElem_cons hj, parV]
theorem parV_end {ms : List (List ByteArray)} {ts : List Ty} {ws : List (List UInt8)} {acc : List Vl} {i : Nat} (h : ¬ i < ws.length) : parV ms (ts.drop i) (ws.drop i) acc = (acc, 0) := by
  rw [List.drop_eq_nil_iff.2 (show ws.length ≤ i by omega)]
  cases ts.drop i <;> rfl
theorem strs_of_list (w : World) (l : List ByteArray) (t : TypeId) (n : Nat) (hn : n = l.length) : Strs (w.alloc (.cells (l.map Value.string).toArray t)) (.slice (some ⟨w.heap.size, 0, none⟩) n n) l := by
  subst hn
  refine ⟨_, _, rfl, fun _ => ⟨w.heap.size, 0, rfl, by simp, fun j hj => ?_⟩⟩
  rw [Nat.zero_add, World.cell?_alloc_at _ _ _ _ rfl, List.getElem?_toArray, List.getElem?_map, List.getElem?_eq_getElem hj]
  rfl
theorem Tryz.infoVal : (Tryz.prog.info? 59).map (fun i => (i.zero, i.size, i.bytes)) = some (some (.agg #[.int .i64 0, .int .i64 0, .int .i64 0]), 3, 24) := by kernel_rfl
theorem split_any (s : ByteArray) (hs : s.size ≤ 1000000) (w : World) (hX : MaxV w) : Calls Tryz.prog 48 #[.string s, .string ⟨#[32]⟩] w fun e w' => ∃ v xs, e = .returned v ∧ Strs w' v xs ∧ xs.map L = spl [] (L s) ∧ xs.length ≤ 1000001 ∧ (∀ x ∈ xs, x.size ≤ s.size) ∧ Kept w w' := by
  obtain ⟨m, hm⟩ := hX
  refine (Tryz.strings_Split s ⟨#[32]⟩ m w (by omega) hm (by decide)).mono ?_
  rintro e w' ⟨rfl, rfl⟩
  have hl := Lib.splitB_all ⟨#[32]⟩ (by decide) 0 _ s rfl
  have hc := Lib.countB_le ⟨#[32]⟩ (by decide) _ s (Nat.le_refl _)
  refine ⟨_, _, rfl, ?_, split_spl _ s rfl, by omega, splitB_sizesC _ s _ (Nat.le_refl _), (Kept.refl _).alloc _⟩
  have := strs_of_list w (Lib.splitB ⟨#[32]⟩ 0 (Lib.countB s ⟨#[32]⟩) s) 9 (Lib.countB s ⟨#[32]⟩ + 1) hl.symm
  exact this
theorem bne_noV {a b : Int} (h : a ≠ b) : (a != b) = true := by simpa using h
theorem gath_low {α : Type} {f : α → List Value} {k : Nat} {w : World} {B B' : Nat} {e : TypeId} {v : Value} {xs : List α} (h : GathR w B e f k v xs) (hb : B' ≤ B) : GathR w B' e f k v xs := by
  refine ⟨h.1, ?_⟩
  rcases h.2 with hn | ⟨g, cap, cur, hv, hg, r⟩
  · exact .inl hn
  · exact .inr ⟨g, cap, cur, hv, Nat.le_trans hb hg, r⟩
theorem vlF_one (x : Vl) : ∀ u ∈ vlF x, u.oneCell' = true := by
  intro u hu
  simp only [vlF, List.mem_cons, List.not_mem_nil, or_false] at hu
  rcases hu with rfl | rfl | rfl <;> rfl
theorem vl_new {W : World} {x : Vl} {t : TypeId} : ∀ j u, (vlF x)[j]? = some u → (W.alloc (.cells #[.int .i64 x.k, .int .i64 x.e, .int .i64 x.n] t)).cell? ((⟨W.heap.size, 0, none⟩ : Addr).add j) = some u :=
  blk_cells (l := vlF x)
def pvPost (ms : List (List ByteArray)) (word line : ByteArray) (ts : List Ty) (w : World) (e : Ending) (w' : World) : Prop :=
  ∃ u, e = .returned (.tuple #[u, .int .i64 (parI ms (L word) ts (L line)).2]) ∧ GathR w' w.heap.size 59 vlF 3 u (parI ms (L word) ts (L line)).1 ∧ Kept w w'
set_option maxRecDepth 100000 in
set_option maxHeartbeats 8000000 in
theorem parseValues_any (ev : Value) (At As : Option Addr) (nt ct ns cs : Nat) (iv : Value) (ms : List (List ByteArray)) (ts : List Ty) (line word : ByteArray) (w : World) (hE : Enums w ev ms) (hI : Fds w iv ts)
    (hls : line.size ≤ 1000000) (hws : word.size ≤ 100) (hw : 32 ∉ L word) (htl : ts.length ≤ 9223372036854775807) (hX : MaxV w) (hMo : Mon w) :
    Calls Tryz.prog 26 #[.agg #[ev, .slice At nt ct, .slice As ns cs], .string line, .string word, iv] w (pvPost ms word line ts w) := by
  unfold pvPost
  obtain ⟨i0, hi, hz0, hz1, hz2⟩ := info_parts Tryz.infoVal
  have HE := Lib.hid hE
  have HI := Lib.hid hI
  obtain ⟨AE, ce, rfl, _, _⟩ := id hE
  obtain ⟨AI, ci, rfl, hAI⟩ := id hI
  have hBx := Blk.new w 26 #[.slice AE ms.length ce, .slice At nt ct, .slice As ns cs]
  have hKx := (Kept.refl w).alloc (.cells #[.slice AE ms.length ce, .slice At nt ct, .slice As ns cs] 26)
  have hneq := neqS line word
  have hcat : word ++ ⟨#[32]⟩ = bs (L word ++ [32]) := by rw [← L_inj, L_append]; rfl
  have hcs : (word ++ ⟨#[32]⟩ : ByteArray).size ≤ 101 := by rw [ByteArray.size_append]; show _ + 1 ≤ _; omega
  have HCP := Lib.hid (fun w => Tryz.strings_CutPrefix line (bs (L word ++ [32])) w)
  rw [show line.data.toList = L line from rfl, show (bs (L word ++ [32])).data.toList = L word ++ [32] from rfl, ← hcat] at HCP
  have hlc := line_cases (L line) (L word) hw
  rw [L_inj] at hlc
  have HPI := Lib.hid (show ∀ ws : List (List UInt8), spl [] (L line) = L word :: ws → parI ms (L word) ts (L line) = if [] ∈ ws then ([], 2) else if ws.length < ts.length then ([], 5) else if ts.length < ws.length then ([], 4) else parV ms ts ws [] from fun ws h => by
    rw [parI, h]
    simp)
  have HNO := Lib.hid (show (spl [] (L line)).head? ≠ some (L word) → parI ms (L word) ts (L line) = ([], 2) from fun h => by rw [parI, if_pos (.inl h)])
  clear hE hI hcat
  go_enter Tryz.func26, Tryz.ntmps26
  go_upto_if 20 with fail
  go_cut [10] (fun t wx => ∃ xs : List ByteArray, Strs wx t xs ∧ xs.length ≤ 1000001 ∧ (∀ x ∈ xs, x.size ≤ 1000000) ∧ spl [] (L line) = L word :: xs.map L ∧ Kept w wx ∧ Blk wx w.heap.size 26 #[.slice AE ms.length ce, .slice At nt ct, .slice As ns cs])
  case first =>
    rcases hlc with ⟨he, hs1⟩ | ⟨hne, hp, hhd⟩ | ⟨hne, hp, r, htr, hrl, hsp⟩
    · rw [show (!decide (line = word)) = false by rw [decide_eq_true he]; rfl]
      have HS1 := Lib.hid hs1
      clear hs1 HPI HNO HCP hX hMo he hneq
      go_wp2_with fail
      go_meet
      exact ⟨[], Strs.nil _, by decide, by simp, HS1.out, by first | exact hKx.setCell (by simp only; omega) _ | exact hKx, by first | exact hBx | skip⟩
    · rw [show (!decide (line = word)) = true by rw [decide_eq_false (fun h => hne (by rw [h]))]; rfl]
      rw [hp] at HCP
      have HN2 := Lib.hid (HNO.out hhd)
      clear hp hhd HPI HNO hX hMo hneq hne
      go_wp2_with (go_at_call 24; refine (HCP.out _).mono ?_; rintro e w1 ⟨rfl, rfl⟩)
      go_ret2
      rw [HN2.out]
      exact ⟨_, rfl, GathR.nil _ _ _, hKx⟩
    · rw [show (!decide (line = word)) = true by rw [decide_eq_false (fun h => hne (by rw [h]))]; rfl]
      rw [hp, htr] at HCP
      have hrs : (bs r).size ≤ 1000000 := by rw [bs_size]; rw [L_length] at hrl; omega
      have HSP := Lib.hid (fun w h => split_any (bs r) hrs w h)
      have HSX := Lib.hid hsp
      rw [L_bs] at HSP
      have HX := Lib.hid hX
      rw [show (⟨r.toArray⟩ : ByteArray) = bs r from rfl] at HCP
      have hbr := bs_size r
      clear hp HPI HNO hMo htr hsp hX hneq hne
      generalize bs r = R at *
      go_wp2_with (first
        | (go_at_call 24; refine (HCP.out _).mono ?_; rintro e w1 ⟨rfl, rfl⟩)
        | (go_at_call 48; refine (HSP.out _ (HX.out.kept (by first | exact hKx | exact hKx.setCell (by simp only; omega) _))).mono ?_; rintro e w2 ⟨v, xs, rfl, hS, hm, hl, hsz, hk⟩))
      go_meet
      refine ⟨xs, hS, hl, fun x hx => Nat.le_trans (hsz x hx) hrs, by rw [hm]; exact HSX.out, hKx.trans hk, ?_⟩
      exact hBx.kept hk
  case rest =>
    obtain ⟨xs, hS, hxl, hxs, hsp, hK, hB⟩ := hcut
    obtain ⟨A, cap, rfl, hA⟩ := hS.at3
    have HCT := Lib.hid (contains_any _ xs ⟨#[]⟩ wc hS (by omega))
    have hpi := HPI.out _ hsp
    have hXc := hX.kept hK
    have hMc := hMo.kept hK
    have hEc := HE.out.kept hK
    obtain ⟨n, hn⟩ : ∃ n, n = xs.length := ⟨_, rfl⟩
    obtain ⟨mt, hmt⟩ : ∃ n, n = ts.length := ⟨_, rfl⟩
    rw [← hn] at HCT hxl hA ⊢
    rw [← hmt] at htl hpi hAI ⊢
    have HN := Lib.hid hn
    have HMT := Lib.hid hmt
    clear HPI HNO HCP hlc hX hMo hKx hBx hneq hS hsp hcs hn hmt HE
    by_cases hm0 : (⟨#[]⟩ : ByteArray) ∈ xs
    · rw [decide_eq_true (idxS_in hm0)] at HCT
      rw [if_pos (show [] ∈ xs.map L from List.mem_map.2 ⟨_, hm0, rfl⟩)] at hpi
      have HR := Lib.hid hpi
      clear hm0 hpi hA
      go_wp2_with (go_at_call 49; refine HCT.out.mono ?_; rintro e w1 ⟨rfl, rfl⟩)
      go_ret2
      rw [HR.out]
      exact ⟨_, rfl, GathR.nil _ _ _, hK⟩
    · rw [decide_eq_false (by rw [idxS_out hm0]; decide)] at HCT
      rw [if_neg (fun h => by obtain ⟨x, hx, he⟩ := List.mem_map.1 h; exact hm0 (by rwa [← L_inj.1 (show L x = L ⟨#[]⟩ from he)])), List.length_map] at hpi
      rw [← HN.out] at hpi
      by_cases hlt : n < mt
      · rw [if_pos hlt] at hpi
        have HR := Lib.hid hpi
        have hlti : (n : Int) < mt := by omega
        clear hm0 hpi hA
        go_wp2_with (go_at_call 49; refine HCT.out.mono ?_; rintro e w1 ⟨rfl, rfl⟩)
        go_ret2
        rw [HR.out]
        exact ⟨_, rfl, GathR.nil _ _ _, hK⟩
      rw [if_neg hlt] at hpi
      have hlti : ¬ (n : Int) < mt := by omega
      by_cases hgt : mt < n
      · rw [if_pos hgt] at hpi
        have HR := Lib.hid hpi
        have hgti : (mt : Int) < n := by omega
        clear hm0 hpi hA
        go_wp2_with (go_at_call 49; refine HCT.out.mono ?_; rintro e w1 ⟨rfl, rfl⟩)
        go_ret2
        rw [HR.out]
        exact ⟨_, rfl, GathR.nil _ _ _, hK⟩
      rw [if_neg hgt] at hpi
      obtain rfl : n = mt := by omega
      have HPA := Lib.hid hpi
      have HA := Lib.hid hA
      have HAI := Lib.hid hAI
      clear hm0 hpi hA hAI hlt hgt hlti
      go_wp2_with (go_at_call 49; refine HCT.out.mono ?_; rintro e w1 ⟨rfl, rfl⟩)
      go_loopw [13, 49] (fun x z wr => ∃ (i : Nat) (acc : List Vl), z = .int .i64 i ∧ i ≤ n ∧ acc.length = i ∧ Kept wc wr ∧ GathR wr wc.heap.size 59 vlF 3 x acc ∧ parV ms (ts.drop i) ((xs.map L).drop i) acc = parI ms (L word) ts (L line)) (fun _ z _ => n - (intOf z).toNat)
      case atStart => exact ⟨0, [], rfl, Nat.zero_le _, rfl, Kept.refl _, GathR.nil _ _ _, HPA.out.symm⟩
      case round =>
        obtain ⟨i, acc, rfl, hin, hal, hKr, hG, hrun⟩ := hrel
        by_cases hlt : i < n
        · obtain ⟨b1, o1, rfl, hb1, hc1⟩ := HA.out (by omega)
          obtain ⟨b2, o2, rfl, hb2, hc2⟩ := HAI.out (by omega)
          have hg1 : xs[i]? = some (xs[i]'(by have := HN.out; omega)) := List.getElem?_eq_getElem _
          have hg2 : ts[i]? = some (ts[i]'(by have := HMT.out; omega)) := List.getElem?_eq_getElem _
          have hgm : (xs.map L)[i]? = some (L (xs[i]'(by have := HN.out; omega))) := by rw [List.getElem?_map, hg1]; rfl
          have x0 := hc1 i _ hg1
          obtain ⟨y0, y1⟩ := hc2 i _ hg2
          have hxz := hxs _ (List.mem_of_getElem? hg1)
          rw [parV_at hg2 hgm] at hrun
          generalize xs[i]'(by have := HN.out; omega) = X at *
          generalize ts[i]'(by have := HMT.out; omega) = T at *
          obtain ⟨tk, te⟩ := T
          dsimp only at hrun y0 y1
          rw [bs_L] at hrun
          have X0 := hKr.cell (p := ⟨b1, _, none⟩) hb1 x0
          have Y0 := (hK.trans hKr).cell (p := ⟨b2, _, none⟩) hb2 y0
          have Y1 := (hK.trans hKr).cell (p := ⟨b2, _, none⟩) hb2 y1
          have hBr := hB.kept hKr
          have c0 := hBr.cell 0
          have cl := hBr.lt
          have b1r := Nat.lt_of_lt_of_le hb1 hKr.size
          have b2r := Nat.lt_of_lt_of_le hb2 (hK.trans hKr).size
          have hii : (i : Int) < n := by omega
          have HVP := Lib.hid (fun w' (h : Kept wc w') => vparse_any X tk te (.slice AE ms.length ce) ms (fun _ => hxz) w' (hEc.kept h) (hMc.kept h))
          generalize vparS X tk te ms = R at *
          obtain ⟨rk, re, rn, rc⟩ := R
          unfold vpV at HVP
          dsimp only at hrun HVP
          have HHR := Lib.hid hrun
          have HKR := Lib.hid hKr
          have HKK := Lib.hid hK
          obtain ⟨A2, c2, hv2, _, _⟩ := hG.form
          subst hv2
          have HHG := Lib.hid hG
          have HAL := Lib.hid hal
          have HMC := Lib.hid hMc
          have HEC := Lib.hid hEc
          have HXC := Lib.hid hXc
          have HXS := Lib.hid hxs
          have hali : acc.length ≤ 1000001 := by omega
          clear hal x0 y0 y1 hc1 hc2 hg1 hg2 hgm hMc hEc hXc hxs HCT HPA HA HAI hG hrun hKr hB hBr hK
          go_wp2_with fail
          have HALL := Lib.hid (show ∀ W, Kept wr W → Kept wr W ∧ W.cell? ⟨b2, o2 + i * 3 + 1, none⟩ = some (.int .i64 tk) ∧ W.cell? ⟨b2, o2 + i * 3 + 2, none⟩ = some (.int .i64 te) ∧ W.cell? ⟨w.heap.size, 0, none⟩ = some (.slice AE ms.length ce) from fun W h => ⟨h, h.cell (p := ⟨b2, _, none⟩) b2r Y0, h.cell (p := ⟨b2, _, none⟩) b2r Y1, h.cell (p := ⟨w.heap.size, _, none⟩) cl c0⟩)
          go_region_held3 (fun W => Kept wr W ∧ W.cell? ⟨b2, o2 + i * 3 + 1, none⟩ = some (.int .i64 tk) ∧ W.cell? ⟨b2, o2 + i * 3 + 2, none⟩ = some (.int .i64 te) ∧ W.cell? ⟨w.heap.size, 0, none⟩ = some (.slice AE ms.length ce))
            ((refine HALL.out _ ?_; (repeat (first | with_reducible exact Kept.refl _ | with_reducible assumption | with_reducible refine Kept.drew ?_ | with_reducible refine Kept.alloc ?_ _ | with_reducible refine Kept.setCell ?_ (by simp only; omega) _ | with_reducible refine Kept.trans ?_ ‹Kept _ _›))))
            ((go_at_call 50; refine (HVP.out _ (HKR.out.trans ?_)).mono ?_; (· (repeat (first | with_reducible exact Kept.refl _ | with_reducible assumption | with_reducible refine Kept.drew ?_ | with_reducible refine Kept.alloc ?_ _ | with_reducible refine Kept.setCell ?_ (by simp only; omega) _ | with_reducible refine Kept.trans ?_ ‹Kept _ _›))); rintro e w' ⟨rfl, hk'⟩; (try (have hN := Blk.kept (Blk.drew (Blk.new wr 59 #[.int .i64 0, .int .i64 0, .int .i64 0])) hk'; have hn1 := hN.cell; have hn2 := hN.frozen; have hn3 := hN.lt)); have hsx := Below.size hk'; (try simp at hsx)))
          · have hBl := Blk.new w' 59 #[.int .i64 rk, .int .i64 re, .int .i64 rn]
            have hW : Kept wr (w'.alloc (.cells #[.int .i64 rk, .int .i64 re, .int .i64 rn] 59)) := Kept.alloc (Kept.trans (Kept.drew (Kept.refl _)) hk') _
            clear hk' hsx
            rename_i hHeld
            clear hHeld
            generalize w'.alloc (.cells #[.int .i64 rk, .int .i64 re, .int .i64 rn] 59) = W at hW hBl ⊢
            generalize w'.heap.size = g at hBl ⊢
            have hW0 := HKR.out.trans hW
            have HG4 := HHG.out.keptOwn hW
            have d0 := hBl.cell 0
            have d1 := hBl.cell 1
            have d2 := hBl.cell 2
            have dl := hBl.lt
            simp only [List.getElem?_toArray, List.getElem?_cons_zero, List.getElem?_cons_succ] at d0 d1 d2
            clear hW hBl HVP
            have hacl : acc.length + 1 ≤ maxLen := by unfold maxLen; omega
            have hacl2 : (acc.length + 1) * 24 ≤ 140737488355328 := by omega
            by_cases hrc : rc = 0
            · have HRUN := Lib.hid (HHR.out.symm.trans (if_pos hrc)).symm
              have HO4 := HG4.alloc (.cells #[.int .i64 rk, .int .i64 re, .int .i64 rn] 59)
              subst hrc
              have hw14 := hW0.size
              go_wp2_with (at_builtin; refine wpList_append_own _ rfl (.tmp 69) (.tmp 71) 27 rfl wc.heap.size 59 i0 (.agg #[.int .i64 0, .int .i64 0, .int .i64 0]) 3 24 Tryz.underlying27 hi hz0 hz1 hz2 rfl (by decide) _ acc.length (acc.flatMap vlF) rfl HO4 ⟨W.heap.size, 0, none⟩ 1 1 (vlF ⟨rk, re, rn⟩) rfl rfl vl_new (vlF_one _) hacl hacl2 (by simp; omega) ?_; intro v' w5 hown' hgrow _)
              go_roundw
              case rel => exact ⟨i + 1, acc ++ [⟨rk, re, rn⟩], rfl, hlt, by rw [List.length_append, HAL.out]; rfl, ownGrown_kept hW0 HG4 (Nat.le_refl _) hgrow, GathR.snoc hown', HRUN.out⟩
              case measure => simp [intOf]; omega
            · have HR := Lib.hid (HHR.out.symm.trans (if_neg hrc)).symm
              have hrcb := bne_noV hrc
              go_wp2_with fail
              go_ret2
              rw [← HR.out]
              exact ⟨_, rfl, GathR.nil _ _ _, HKK.out.trans hW0⟩
          · have hBl := ((hN.set_ 0 (.int .i64 rk)).set_ 1 (.int .i64 re)).set_ 2 (.int .i64 rn)
            have hW : Kept wr (((w'.setCell ⟨wr.heap.size, 0, none⟩ (.int .i64 rk)).setCell ⟨wr.heap.size, 1, none⟩ (.int .i64 re)).setCell ⟨wr.heap.size, 2, none⟩ (.int .i64 rn)) := by
              have hk2 : Kept wr w' := Kept.trans (Kept.drew (Kept.alloc (Kept.refl _) _)) hk'
              refine Kept.setCell (Kept.setCell (Kept.setCell hk2 ?_ _) ?_ _) ?_ _ <;> exact Nat.le_refl _
            replace hBl : Blk _ wr.heap.size 59 #[.int .i64 rk, .int .i64 re, .int .i64 rn] := hBl
            clear hk' hsx hN hn1 hn2 hn3
            rename_i hHeld
            clear hHeld
            generalize ((w'.setCell ⟨wr.heap.size, 0, none⟩ (.int .i64 rk)).setCell ⟨wr.heap.size, 1, none⟩ (.int .i64 re)).setCell ⟨wr.heap.size, 2, none⟩ (.int .i64 rn) = W at hW hBl ⊢
            generalize wr.heap.size = g at hBl ⊢
            have hW0 := HKR.out.trans hW
            have HG4 := HHG.out.keptOwn hW
            have d0 := hBl.cell 0
            have d1 := hBl.cell 1
            have d2 := hBl.cell 2
            have dl := hBl.lt
            simp only [List.getElem?_toArray, List.getElem?_cons_zero, List.getElem?_cons_succ] at d0 d1 d2
            clear hW hBl HVP
            have hacl : acc.length + 1 ≤ maxLen := by unfold maxLen; omega
            have hacl2 : (acc.length + 1) * 24 ≤ 140737488355328 := by omega
            by_cases hrc : rc = 0
            · have HRUN := Lib.hid (HHR.out.symm.trans (if_pos hrc)).symm
              have HO4 := HG4.alloc (.cells #[.int .i64 rk, .int .i64 re, .int .i64 rn] 59)
              subst hrc
              have hw14 := hW0.size
              go_wp2_with (at_builtin; refine wpList_append_own _ rfl (.tmp 69) (.tmp 71) 27 rfl wc.heap.size 59 i0 (.agg #[.int .i64 0, .int .i64 0, .int .i64 0]) 3 24 Tryz.underlying27 hi hz0 hz1 hz2 rfl (by decide) _ acc.length (acc.flatMap vlF) rfl HO4 ⟨W.heap.size, 0, none⟩ 1 1 (vlF ⟨rk, re, rn⟩) rfl rfl vl_new (vlF_one _) hacl hacl2 (by simp; omega) ?_; intro v' w5 hown' hgrow _)
              go_roundw
              case rel => exact ⟨i + 1, acc ++ [⟨rk, re, rn⟩], rfl, hlt, by rw [List.length_append, HAL.out]; rfl, ownGrown_kept hW0 HG4 (Nat.le_refl _) hgrow, GathR.snoc hown', HRUN.out⟩
              case measure => simp [intOf]; omega
            · have HR := Lib.hid (HHR.out.symm.trans (if_neg hrc)).symm
              have hrcb := bne_noV hrc
              go_wp2_with fail
              go_ret2
              rw [← HR.out]
              exact ⟨_, rfl, GathR.nil _ _ _, HKK.out.trans hW0⟩
        · obtain rfl : i = n := by omega
          rw [parV_end (by rw [List.length_map]; have := HN.out; omega)] at hrun
          have HR := Lib.hid hrun
          clear hrun
          go_wp2_with fail
          go_ret2
          rw [← HR.out]
          exact ⟨_, rfl, gath_low hG hK.size, hK.trans hKr⟩
end Go.Proofs.YtemejaomfbhldaaGreatDoor
/- What Parse of package casedata computes. -/
namespace Go.Proofs.YtemejaomfbhldaaGreatDoor
open Go.RowKit

section
variable {α : Type} {f : α → List Value} {k : Nat} {w : World} {B : Nat} {e : TypeId}
theorem GathR.blockC {v : Value} {xs : List α} (h : GathR w B e f k v xs) {g : Nat} (hv : v.ownBlock = some g) : ∃ cur, w.heap[g]? = some (.cells cur e (0, 0)) := by
  rcases h.2 with ⟨rfl, _⟩ | ⟨g', cap, cur, rfl, _, hg, _⟩
  · cases hv
  · obtain rfl : g' = g := Option.some.inj hv
    exact ⟨cur, hg⟩
theorem GathR.frozenC {v : Value} {xs : List α} (h : GathR w B e f k v xs) {g : Nat} (hv : v.ownBlock = some g) (i : Nat) : w.frozen? ⟨g, i, none⟩ = false := by
  obtain ⟨cur, hc⟩ := h.blockC hv
  simp [World.frozen?, hc]
/-- a row that is not the row that has grown -/
theorem GathR.grownC {w' : World} {v : Value} {xs : List α} {row : Option Nat} (h : GathR w B e f k v xs) (hg : w.grownBy w' row) (hne : ∀ b, v.ownBlock = some b → row ≠ some b) : GathR w' B e f k v xs := by
  refine ⟨h.1, ?_⟩
  rcases h.2 with hn | ⟨g, cap, cur, rfl, hb, hc, r⟩
  · exact .inl hn
  · exact .inr ⟨g, cap, cur, rfl, hb, (hg.block g (Array.getElem?_eq_some_iff.1 hc).1 (fun e => hne g rfl e.symm)).trans hc, r⟩
theorem GathR.farC {v : Value} {xs : List α} {p : Addr} {u : Value} (h : GathR w B e f k v xs) (hp : ∀ b, v.ownBlock = some b → b ≠ p.block) : GathR (w.setCell p u) B e f k v xs := by
  refine ⟨h.1, ?_⟩
  rcases h.2 with hn | ⟨g, cap, cur, rfl, hb, hc, r⟩
  · exact .inl hn
  · exact .inr ⟨g, cap, cur, rfl, hb, (Below.heap_setCell w p u g (hp g rfl)).trans hc, r⟩
end
theorem lns_sizesC (s : ByteArray) : ∀ (l : List UInt8) (pos st : Nat) (p : List ByteArray × Nat), lns s l pos st = some p → ∀ x ∈ p.1, x.size ≤ s.size
  | [], pos, st, p, h => by
    rw [lns] at h
    obtain rfl := Option.some.inj h
    intro x hx; simp at hx
  | c :: r, pos, st, p, h => by
    rw [lns] at h
    split at h
    · cases hq : lns s r (pos + 1) (pos + 1) with
      | none => rw [hq] at h; cases h
      | some q =>
        rw [hq] at h
        obtain rfl := Option.some.inj h
        intro x hx
        rcases List.mem_cons.1 hx with rfl | hx
        · rw [ByteArray.size_extract]; omega
        · exact lns_sizesC s r _ _ q hq x hx
    · split at h
      · exact lns_sizesC s r _ _ p h
      · cases h
theorem lines_sizeC (s : ByteArray) : ∀ x ∈ (linR s).1, x.size ≤ 65536 := by
  intro x hx
  unfold linR at hx
  split at hx
  · simp at hx
  · split at hx
    · simp at hx
    · rename_i l e hl
      split at hx
      · have := lns_sizesC s (L s) 0 0 (l, e) hl x hx
        omega
      · simp at hx
theorem parM_at {ms : List (List ByteArray)} {ts : List Ty} {lim i : Nat} {ls : List (List UInt8)} {acc : List (List Vl)} {l : List UInt8} (h : ls[i]? = some l) :
    parM ms ts lim i (ls.drop i) acc = if lim ≤ acc.length then ([], i, 4) else if (parI ms [109, 101, 109, 98, 101, 114] ts l).2 = 0 then parM ms ts lim (i + 1) (ls.drop (i + 1)) (acc ++ [(parI ms [109, 101, 109, 98, 101, 114] ts l).1]) else ([], i, (parI ms [109, 101, 109, 98, 101, 114] ts l).2) := by
  obtain ⟨hi, rfl⟩ := List.getElem?_eq_some_iff.1 h
  rw [List.drop_eq_getElem_cons hi, parM]
theorem parM_end {ms : List (List ByteArray)} {ts : List Ty} {lim i : Nat} {ls : List (List UInt8)} {acc : List (List Vl)} (h : ¬ i < ls.length) : parM ms ts lim i (ls.drop i) acc = (acc, 0, 0) := by
  rw [List.drop_eq_nil_iff.2 (by omega), parM]
theorem memI_bd {scs : List Sc} {sp : Sc} (h : ∀ (j : Nat) (s : Sc), scs[j]? = some s → s.ins.length ≤ 9223372036854775807) : (memI scs sp).1.length ≤ 9223372036854775807 ∧ (memI scs sp).2 ≤ 8 := by
  unfold memI
  split
  · exact ⟨by simp, by decide⟩
  · refine ⟨?_, Nat.le_refl _⟩
    cases hg : scs[sp.m.toNat]? with
    | none => simp
    | some s => simpa using h _ s hg
theorem Tryz.infoVals : (Tryz.prog.info? 27).map (fun i => (i.zero, i.size, i.bytes)) = some (some (.slice none 0 0), 1, 24) := by kernel_rfl
/-- the members read so far: rows of their own, apart from the list -/
def MemR (w : World) (B : Nat) (mv : Value) (vs : List Value) (acc : List (List Vl)) : Prop :=
  vs.length = acc.length ∧ GathR w B 27 (fun v => [v]) 1 mv vs ∧ ∀ (j : Nat) (l : List Vl) (v : Value), acc[j]? = some l → vs[j]? = some v → GathR w B 59 vlF 3 v l ∧ ∀ b, v.ownBlock = some b → mv.ownBlock ≠ some b
/-- all old blocks but one are as they were -/
def KeptX (w : World) (g : Nat) (w' : World) : Prop := w.heap.size ≤ w'.heap.size ∧ ∀ b, b < w.heap.size → b ≠ g → w'.heap[b]? = w.heap[b]?
theorem MemR.far {w : World} {B : Nat} {mv : Value} {vs : List Value} {acc : List (List Vl)} (h : MemR w B mv vs acc) {p : Addr} (u : Value) (hp : p.block < B) : MemR (w.setCell p u) B mv vs acc :=
  ⟨h.1, h.2.1.farC (fun b hb => by have := (h.2.1.owned hb).1; omega), fun j l v h1 h2 => ⟨(h.2.2 j l v h1 h2).1.farC (fun b hb => by have := ((h.2.2 j l v h1 h2).1.owned hb).1; omega), (h.2.2 j l v h1 h2).2⟩⟩
theorem MemR.mems {w : World} {B : Nat} {mv : Value} {vs : List Value} {acc : List (List Vl)} (h : MemR w B mv vs acc) (hl : acc.length ≤ 8) : Mems w mv acc := by
  obtain ⟨hvl, hG, hv⟩ := h
  obtain ⟨A, cap, hm, hx⟩ := GathR.recs (f := fun v : Value => [v]) (k := 1) (fun _ => rfl) hG
  rw [hvl] at hm hx
  refine ⟨A, cap, hm, by omega, fun hp => ?_⟩
  obtain ⟨b, off, hA, hb, hc⟩ := hx hp
  refine ⟨b, off, hA, hb, fun j l hj => ?_⟩
  have hjv : vs[j]? = some (vs[j]'(by have := (List.getElem?_eq_some_iff.1 hj).1; omega)) := List.getElem?_eq_getElem _
  have hG2 := (hv j l _ hj hjv).1
  refine ⟨?_, _, ?_, hG2.recs (fun _ => rfl)⟩
  · obtain ⟨_, c, _, h1, h2⟩ := hG2.form
    unfold maxLen at h2
    omega
  · have := hc j _ hjv 0 _ rfl
    rwa [show off + j * 1 + 0 = off + j by omega] at this
theorem GathR.keptX {α : Type} {f : α → List Value} {k : Nat} {w w' : World} {B g : Nat} {e : TypeId} {v : Value} {xs : List α} (h : GathR w B e f k v xs) (hk : KeptX w g w') (hg : g < B) : GathR w' B e f k v xs := by
  refine ⟨h.1, ?_⟩
  rcases h.2 with hn | ⟨g', cap, cur, rfl, hb, hc, r⟩
  · exact .inl hn
  · exact .inr ⟨g', cap, cur, rfl, hb, (hk.2 g' (Array.getElem?_eq_some_iff.1 hc).1 (by omega)).trans hc, r⟩
theorem GathR.apart {α β : Type} {f : α → List Value} {f' : β → List Value} {k k' : Nat} {w : World} {B B' : Nat} {e e' : TypeId} {v v' : Value} {xs : List α} {ys : List β} (h : GathR w B e f k v xs) (h' : GathR w B' e' f' k' v' ys) (hne : e ≠ e') (b : Nat) (hb : v.ownBlock = some b) : v'.ownBlock ≠ some b := by
  intro hb'
  obtain ⟨c, hc⟩ := h.blockC hb
  obtain ⟨c', hc'⟩ := h'.blockC hb'
  rw [hc] at hc'
  simp only [Option.some.injEq, Obj.cells.injEq] at hc'
  exact hne hc'.2.1
theorem MemR.snoc {w5 w8 : World} {B : Nat} {mv v' u : Value} {vs : List Value} {acc : List (List Vl)} {l : List Vl} {o : Obj} (h : MemR w5 B mv vs acc) (hu : GathR w5 B 59 vlF 3 u l) (hg : (w5.alloc o).grownBy w8 mv.ownBlock) (hv : GathR w8 B 27 (fun v => [v]) 1 v' (vs ++ [u])) : MemR w8 B v' (vs ++ [u]) (acc ++ [l]) := by
  have hold : ∀ (v : Value) (l : List Vl), GathR w5 B 59 vlF 3 v l → GathR w8 B 59 vlF 3 v l ∧ ∀ b, v.ownBlock = some b → v'.ownBlock ≠ some b := fun v l hvl => by
    have h1 : GathR w8 B 59 vlF 3 v l := (hvl.keptOwn ((Kept.refl _).alloc o)).grownC hg (fun b hb => hvl.apart h.2.1 (by decide) b hb)
    exact ⟨h1, fun b hb => h1.apart hv (by decide) b hb⟩
  refine ⟨by rw [List.length_append, List.length_append, h.1]; rfl, hv, fun j l' v h1 h2 => ?_⟩
  by_cases hj : j < acc.length
  · rw [List.getElem?_append_left hj] at h1
    rw [List.getElem?_append_left (by rw [h.1]; exact hj)] at h2
    exact hold v l' (h.2.2 j l' v h1 h2).1
  · rw [List.getElem?_append_right (by omega)] at h1
    rw [List.getElem?_append_right (by rw [h.1]; omega), h.1] at h2
    have hj0 : j - acc.length = 0 := by
      have := (List.getElem?_eq_some_iff.1 h1).1
      simp only [List.length_cons, List.length_nil] at this
      omega
    rw [hj0] at h1 h2
    obtain rfl : l = l' := Option.some.inj h1
    obtain rfl : u = v := Option.some.inj h2
    exact hold u l hu
theorem MemR.keptOwn {w w' : World} {B : Nat} {mv : Value} {vs : List Value} {acc : List (List Vl)} (h : MemR w B mv vs acc) (hk : Kept w w') : MemR w' B mv vs acc :=
  ⟨h.1, h.2.1.keptOwn hk, fun j l v h1 h2 => ⟨(h.2.2 j l v h1 h2).1.keptOwn hk, (h.2.2 j l v h1 h2).2⟩⟩
theorem Fds.keptX {w w' : World} {v : Value} {ts : List Ty} {g : Nat} {t : TypeId} {d : Int} {A A2 : Option Addr} {n c n2 c2 : Nat} (h : Fds w v ts) (hB : Blk w g t #[.int .i64 d, .slice A n c, .slice A2 n2 c2]) (hk : KeptX w g w') : Fds w' v ts := by
  obtain ⟨A0, cap, hv, hx⟩ := h
  refine ⟨A0, cap, hv, fun hp => ?_⟩
  obtain ⟨b, off, hA, hb, hc⟩ := hx hp
  have hne : b ≠ g := by
    rintro rfl
    have h0 := (hc 0 _ (List.getElem?_eq_getElem hp)).1
    rw [hB.cell, show off + 0 * 3 + 1 = off + 1 by omega] at h0
    match off, h0 with
    | 0, h0 => simp at h0
    | 1, h0 => simp at h0
    | k + 2, h0 => simp at h0
  refine ⟨b, off, hA, Nat.lt_of_lt_of_le hb hk.1, fun j t hj => ?_⟩
  have := hc j t hj
  simp only [World.cell?] at this ⊢
  rwa [hk.2 b hb hne]
def csPost (R : Cs × Nat × Int) (w : World) (e : Ending) (w' : World) : Prop :=
  ∃ iv mv, e = .returned (.tuple #[.agg #[.int .i64 R.1.d, iv, mv], .int .i64 (R.2.1 : Nat), .int .i64 R.2.2]) ∧ Vals w' iv R.1.ins ∧ Mems w' mv R.1.mem ∧ Kept w w'
theorem csPost.none {w w' : World} {i : Nat} {c : Int} (h : Kept w w') : csPost (cs0, i, c) w (.returned (.tuple #[.agg #[.int .i64 0, .slice none 0 0, .slice none 0 0], .int .i64 (i : Nat), .int .i64 c])) w' :=
  ⟨_, _, rfl, Recs.nil _ _ _, Mems.nil _, h⟩
theorem pre_take (l p : List UInt8) : Lib.hasPrefix l p = decide (l.take p.length = p) := by
  unfold Lib.hasPrefix
  by_cases h : l.take p.length = p
  · rw [decide_eq_true h, List.isPrefixOf_iff_prefix]
    exact ⟨l.drop p.length, by have := List.take_append_drop p.length l; rwa [h] at this⟩
  · rw [decide_eq_false h]
    cases hb : p.isPrefixOf l
    · rfl
    · rw [List.isPrefixOf_iff_prefix] at hb
      exact absurd (List.prefix_iff_eq_take.1 hb).symm h
set_option maxRecDepth 100000 in
set_option maxHeartbeats 8000000 in
theorem cparse_any (lv : Value) (ms : List (List ByteArray)) (scs : List Sc) (sc : Int) (s : ByteArray) (w : World) (hL : LawM w lv ms scs) (hs : s.size ≤ 1000000) (hX : MaxV w) (hMo : Mon w) :
    Calls Tryz.prog 10 #[lv, .int .i64 sc, .string s] w (csPost (parCs ms scs sc s) w) := by
  obtain ⟨ev, At, nt, ct, sv, rfl, hE, hS⟩ := hL
  obtain ⟨AE, ce, rfl, _, _⟩ := id hE
  obtain ⟨AS, cs, rfl, hsl, hx⟩ := id hS
  have K0 := Lib.hid (((Kept.refl w).alloc (.cells #[.slice AE ms.length ce, .slice At nt ct, .slice AS scs.length cs] 26)).alloc (.cells #[.int .i64 0, .slice none 0 0, .slice none 0 0] 30))
  by_cases h1 : sc < 0
  · have HR := Lib.hid (show parCs ms scs sc s = (cs0, 0, 6) by rw [parCs, if_pos (.inl h1)])
    rw [HR.out]
    clear hE hS hX hMo hx
    go_enter Tryz.func10, Tryz.ntmps10
    go_wp2_with fail
    refine bodyPost_ret (v := .tuple #[.agg #[.int .i64 0, .slice none 0 0, .slice none 0 0], .int .i64 (0 : Nat), .int .i64 6]) (by simp [results, Tryz.results10, go_sem]) rfl (csPost.none ?_)
    repeat refine Kept.setCell ?_ (by simp only; omega) _
    exact K0.out
  by_cases h2 : (scs.length : Int) ≤ sc
  · have HR := Lib.hid (show parCs ms scs sc s = (cs0, 0, 6) by rw [parCs, if_pos (.inr h2)])
    rw [HR.out]
    clear hE hS hX hMo hx
    go_enter Tryz.func10, Tryz.ntmps10
    go_wp2_with fail
    refine bodyPost_ret (v := .tuple #[.agg #[.int .i64 0, .slice none 0 0, .slice none 0 0], .int .i64 (0 : Nat), .int .i64 6]) (by simp [results, Tryz.results10, go_sem]) rfl (csPost.none ?_)
    repeat refine Kept.setCell ?_ (by simp only; omega) _
    exact K0.out
  obtain ⟨k, hk⟩ : ∃ k : Nat, sc = k := ⟨sc.toNat, by omega⟩
  subst hk
  have hks : k < scs.length := by omega
  have hksi : (k : Int) < scs.length := by omega
  obtain ⟨b1, o1, rfl, hb1, hc1⟩ := hx (by omega)
  have hg : scs[k]? = some (scs[k]'hks) := List.getElem?_eq_getElem hks
  obtain ⟨hin, _, iv, hiv, hF⟩ := hc1 k _ hg
  have hpc : parCs ms scs k s = if (linR s).2 ≠ 0 then (cs0, 0, (linR s).2)
      else match (linR s).1.map L with
        | [] => (cs0, 0, 5)
        | l0 :: r =>
          if l0.take 5 ≠ datW then (cs0, 0, 2)
          else if (dparS (bs (l0.drop 5))).2 ≠ 0 then (cs0, 0, (dparS (bs (l0.drop 5))).2)
          else match r with
            | [] => (cs0, 1, 5)
            | l1 :: r =>
              if (parI ms [105, 110] (scs[k]'hks).ins l1).2 ≠ 0 then (cs0, 1, (parI ms [105, 110] (scs[k]'hks).ins l1).2)
              else if (parM ms (memI scs (scs[k]'hks)).1 (memI scs (scs[k]'hks)).2 2 r []).2.2 ≠ 0 then (cs0, (parM ms (memI scs (scs[k]'hks)).1 (memI scs (scs[k]'hks)).2 2 r []).2.1, (parM ms (memI scs (scs[k]'hks)).1 (memI scs (scs[k]'hks)).2 2 r []).2.2)
              else (⟨(dparS (bs (l0.drop 5))).1, (parI ms [105, 110] (scs[k]'hks).ins l1).1, (parM ms (memI scs (scs[k]'hks)).1 (memI scs (scs[k]'hks)).2 2 r []).1⟩, 0, 0) := by
    rw [parCs, if_neg (by omega), Int.toNat_natCast, hg]
    rfl
  have HMI := Lib.hid (fun w' (h : Kept w w') => memberInputs_any (.slice AE ms.length ce) (.slice (some ⟨b1, o1, none⟩) scs.length cs) At nt ct scs k w' AE ms.length ce rfl (hS.kept h) hks)
  unfold memPost at HMI
  simp only [hg, Option.getD_some] at HMI
  generalize scs[k]'hks = sp at *
  have hmb : (memI scs sp).1.length ≤ 9223372036854775807 ∧ (memI scs sp).2 ≤ 8 := memI_bd (fun j s hj => (hc1 j s hj).1)
  have HE := Lib.hid hE
  have HX := Lib.hid hX
  have HMO := Lib.hid hMo
  have HF := Lib.hid hF
  have HL0 := Lib.hid (fun w => lines_any s hs w)
  have hsz := lines_sizeC s
  generalize linR s = R at *
  obtain ⟨xs, code⟩ := R
  dsimp only at HL0 hsz hpc
  obtain ⟨n, hn⟩ : ∃ n, n = xs.length := ⟨_, rfl⟩
  have HL : Hid (∀ w, Calls Tryz.prog 23 #[.string s] w fun e w' => ∃ A cap, e = .returned (.tuple #[.slice A n cap, .int .i64 code]) ∧ (0 < n → ∃ b off, A = some ⟨b, off, none⟩ ∧ b < w'.heap.size ∧ ∀ (j : Nat) x, xs[j]? = some x → w'.cell? ⟨b, off + j, none⟩ = some (.string x)) ∧ Kept w w') :=
    Lib.hid (fun w => (HL0.out w).mono (fun e w' h => by
      obtain ⟨v, h1, h2, h3⟩ := h
      obtain ⟨A, cap, h4, h5⟩ := h2.at3
      subst h4
      rw [← hn] at h1 h5
      exact ⟨A, cap, h1, h5, h3⟩))
  clear h1 h2 hE hS hX hMo hF hg HL0 hx hc1
  by_cases hcode : code ≠ 0
  · rw [if_pos hcode] at hpc
    have HR := Lib.hid hpc
    have hcb := bne_noV hcode
    clear hpc hcode hsz
    rw [HR.out]
    go_enter Tryz.func10, Tryz.ntmps10
    go_wp2_with (go_at_call 23; refine (HL.out _).mono ?_; rintro e w1 ⟨A, cap, rfl, hA, hk⟩; have K1 := K0.out.trans hk; have B6 := hk.blk2.2; have b6 := B6.cell; have l6 := B6.lt; have f6 := B6.frozen)
    refine bodyPost_ret (v := .tuple #[.agg #[.int .i64 0, .slice none 0 0, .slice none 0 0], .int .i64 (0 : Nat), .int .i64 code]) (by simp [results, Tryz.results10, go_sem, b6]) rfl (csPost.none ?_)
    repeat refine Kept.setCell ?_ (by simp only; omega) _
    exact K1
  obtain rfl : code = 0 := by simpa using hcode
  rw [if_neg hcode] at hpc
  clear hcode
  cases xs with
  | nil =>
    have HR := Lib.hid hpc
    simp only [List.length_nil] at hn
    subst hn
    clear hpc hsz
    rw [HR.out.trans rfl]
    go_enter Tryz.func10, Tryz.ntmps10
    go_wp2_with (go_at_call 23; refine (HL.out _).mono ?_; rintro e w1 ⟨A, cap, rfl, hA, hk⟩; have K1 := K0.out.trans hk; have B6 := hk.blk2.2; have b6 := B6.cell; have l6 := B6.lt; have f6 := B6.frozen)
    refine bodyPost_ret (v := .tuple #[.agg #[.int .i64 0, .slice none 0 0, .slice none 0 0], .int .i64 (0 : Nat), .int .i64 5]) (by simp [results, Tryz.results10, go_sem, b6]) rfl (csPost.none ?_)
    repeat refine Kept.setCell ?_ (by simp only; omega) _
    exact K1
  | cons l0 r =>
    have hn0 : 0 < n := by rw [hn, List.length_cons]; omega
    have hg0 : (l0 :: r)[0]? = some l0 := rfl
    have HCP := Lib.hid (fun w => Tryz.strings_CutPrefix l0 ⟨#[100, 97, 116, 101, 32]⟩ w)
    rw [show (⟨#[100, 97, 116, 101, 32]⟩ : ByteArray).data.toList = datW from rfl, show l0.data.toList = L l0 from rfl, Lib.trimPrefix, pre_take, show datW.length = 5 from rfl] at HCP
    rw [List.map_cons] at hpc
    dsimp only at hpc
    have HN := Lib.hid hn
    clear hn
    have hn0b : ((n : Int) == 0) = false := by simp; omega
    by_cases hd : (L l0).take 5 ≠ datW
    · rw [if_pos hd] at hpc
      rw [decide_eq_false hd] at HCP
      have HR := Lib.hid hpc
      clear hpc hd hsz
      rw [HR.out]
      go_enter Tryz.func10, Tryz.ntmps10
      go_wp2_with (first
        | (go_at_call 23; refine (HL.out _).mono ?_; rintro e w1 ⟨A, cap, rfl, hA, hk⟩; obtain ⟨b2, o2, rfl, hb2, hc2⟩ := hA hn0; have x0 := hc2 0 _ hg0; rw [Nat.add_zero] at x0; have X0 := Kept.cell (p := ⟨b2, o2, none⟩) ((Kept.refl w1).alloc (.cells #[.int .i64 0, .slice none 0 0, .slice none 0 0] 30)) hb2 x0; have K1 := (K0.out.trans hk).alloc (.cells #[.int .i64 0, .slice none 0 0, .slice none 0 0] 30); have B6 := hk.blk2.2.alloc (.cells #[.int .i64 0, .slice none 0 0, .slice none 0 0] 30); have b6 := B6.cell; have l6 := B6.lt; have f6 := B6.frozen)
        | (go_at_call 24; refine (HCP.out _).mono ?_; rintro e w2 ⟨rfl, rfl⟩))
      refine bodyPost_ret (v := .tuple #[.agg #[.int .i64 0, .slice none 0 0, .slice none 0 0], .int .i64 (0 : Nat), .int .i64 2]) (by simp [results, Tryz.results10, go_sem, b6]) rfl (csPost.none ?_)
      repeat refine Kept.setCell ?_ (by simp only; omega) _
      exact K1
    obtain hd : (L l0).take 5 = datW := Decidable.not_not.1 hd
    rw [if_neg (by simpa using hd)] at hpc
    rw [decide_eq_true hd, if_pos rfl, show (⟨((L l0).drop 5).toArray⟩ : ByteArray) = bs ((L l0).drop 5) from rfl] at HCP
    generalize bs ((L l0).drop 5) = D at *
    have HDP := Lib.hid (fun w' h => parse_any D w' h)
    generalize dparS D = DR at *
    obtain ⟨d, dc⟩ := DR
    dsimp only at HDP hpc
    clear hd
    have HZ := Lib.hid hsz
    have HPC := Lib.hid hpc
    clear hsz hpc
    go_enter Tryz.func10, Tryz.ntmps10
    go_upto_region 12 with (first
        | (go_at_call 23; refine (HL.out _).mono ?_; rintro e w1 ⟨A, cap, rfl, hA, hk⟩; obtain ⟨b2, o2, rfl, hb2, hc2⟩ := hA hn0; have x0 := hc2 0 _ hg0; rw [Nat.add_zero] at x0; have X0 := Kept.cell (p := ⟨b2, o2, none⟩) ((Kept.refl w1).alloc (.cells #[.int .i64 0, .slice none 0 0, .slice none 0 0] 30)) hb2 x0)
        | (go_at_call 24; refine (HCP.out _).mono ?_; rintro e w2 ⟨rfl, rfl⟩))
    have K1 : Kept w w1 := K0.out.trans hk
    have hw1 := hk.size
    simp only [World.size_alloc] at hw1
    have KA := K1.alloc (.cells #[.int .i64 0, .slice none 0 0, .slice none 0 0] 30)
    have KB := (Kept.refl w1).alloc (.cells #[.int .i64 0, .slice none 0 0, .slice none 0 0] 30)
    have H6 := Lib.hid hk.blk2.2
    have H3 := Lib.hid hk.blk2.1
    have b3 := hk.blk2.1.cell
    have c0 := b3 0
    have c1 := b3 1
    have c2 := b3 2
    have c3l := hk.blk2.1.lt
    simp only [List.getElem?_toArray, List.getElem?_cons_zero, List.getElem?_cons_succ] at c0 c1 c2
    clear b3
    have B3 := hk.blk2.1.alloc (.cells #[.int .i64 0, .slice none 0 0, .slice none 0 0] 30)
    have B6 := hk.blk2.2.alloc (.cells #[.int .i64 0, .slice none 0 0, .slice none 0 0] 30)
    have B11 := Blk.new w1 30 #[.int .i64 0, .slice none 0 0, .slice none 0 0]
    have HDP1 := Lib.hid (HDP.out _ (HMO.out.kept KA))
    clear HCP HDP hA x0 X0 HL hk hg0
    by_cases hdc : dc ≠ 0
    · have HR := Lib.hid (HPC.out.trans (if_pos hdc))
      have hdcb := bne_noV hdc
      clear hdc
      go_wp2_with (go_at_call 25; refine HDP1.out.mono ?_; rintro e w3 ⟨rfl, hk3⟩; have b6 := (B6.kept hk3).cell; have l6 := (B6.kept hk3).lt; have f6 := (B6.kept hk3).frozen; have b11 := (B11.kept hk3).cell; have l11 := (B11.kept hk3).lt; have f11 := (B11.kept hk3).frozen)
      rw [HR.out]
      refine bodyPost_ret (v := .tuple #[.agg #[.int .i64 0, .slice none 0 0, .slice none 0 0], .int .i64 (0 : Nat), .int .i64 dc]) (by simp [results, Tryz.results10, go_sem, b6]) rfl (csPost.none ?_)
      repeat refine Kept.setCell ?_ (by simp only; omega) _
      exact KA.trans hk3
    obtain rfl : dc = 0 := by simpa using hdc
    have HPD := Lib.hid (HPC.out.trans (if_neg hdc))
    clear hdc HPC
    go_upto_region 15 with (go_at_call 25; refine HDP1.out.mono ?_; rintro e w3 ⟨rfl, hk3⟩; have b11 := (B11.kept hk3).cell; have l11 := (B11.kept hk3).lt; have f11 := (B11.kept hk3).frozen)
    have K14 : Kept w1 (w3.setCell ⟨w1.heap.size, 0, none⟩ (.int .i64 d)) := (KB.trans hk3).setCell (Nat.le_refl _) _
    have KW := Lib.hid (K1.trans K14)
    have C3 := (B3.kept hk3).far (p := ⟨w1.heap.size, 0, none⟩) (by simp only; omega) (.int .i64 d)
    have C6 := (B6.kept hk3).far (p := ⟨w1.heap.size, 0, none⟩) (by simp only; omega) (.int .i64 d)
    have C11 : Blk _ w1.heap.size 30 #[.int .i64 d, .slice none 0 0, .slice none 0 0] := (B11.kept hk3).set_ 0 (.int .i64 d)
    have HC2 := Lib.hid hc2
    have hbw : b1 < w1.heap.size := Nat.lt_of_lt_of_le hb1 K1.size
    have hv := K1.cell (p := ⟨b1, o1 + k * 5 + 2, none⟩) hb1 hiv
    have KK1 := Lib.hid K1
    clear hc2 B3 B6 B11 HDP1 KA KB K1 b11 l11 f11 hk3
    generalize w3.setCell ⟨w1.heap.size, 0, none⟩ (.int .i64 d) = W4 at *
    obtain ⟨gc, hgc⟩ : ∃ gc, gc = w1.heap.size := ⟨_, rfl⟩
    rw [← hgc] at hw1 hb2 hbw c3l C11 ⊢
    have hgc1 : w1.heap.size ≤ gc := Nat.le_of_eq hgc.symm
    have hgc2 : gc ≤ w1.heap.size := Nat.le_of_eq hgc
    clear hgc
    have b6 := C6.cell
    have l6 := C6.lt
    have f6 := C6.frozen
    cases r with
    | nil =>
      have HR := Lib.hid HPD.out
      obtain rfl : n = 1 := HN.out
      simp only [List.map_nil] at HR
      go_wp2_with fail
      rw [HR.out]
      refine bodyPost_ret (v := .tuple #[.agg #[.int .i64 0, .slice none 0 0, .slice none 0 0], .int .i64 (1 : Nat), .int .i64 5]) (by simp [results, Tryz.results10, go_sem, b6]) rfl (csPost.none ?_)
      repeat refine Kept.setCell ?_ (by simp only; omega) _
      exact KW.out
    | cons l1 r =>
      have hn1b : ((n : Int) == 1) = false := by simp; have := HN.out; simp only [List.length_cons] at this; omega
      have hn1i : (1 : Int) < n := by have := HN.out; simp only [List.length_cons] at this; omega
      have hX1 := HC2.out 1 l1 rfl
      have hl1 : l1.size ≤ 1000000 := Nat.le_trans (HZ.out l1 (by simp)) (by decide)
      have HPI := Lib.hid (fun w' (h : Kept w1 w') => parseValues_any (.slice AE ms.length ce) At (some ⟨b1, o1, none⟩) nt ct scs.length cs iv ms sp.ins l1 ⟨#[105, 110]⟩ w' (HE.out.kept (KK1.out.trans h)) (HF.out.kept (KK1.out.trans h)) hl1 (by decide) (by decide) hin (HX.out.kept (KK1.out.trans h)) (HMO.out.kept (KK1.out.trans h)))
      unfold pvPost at HPI
      rw [show L ⟨#[105, 110]⟩ = [105, 110] from rfl] at HPI
      have HPE := HPD.out
      rw [List.map_cons] at HPE
      dsimp only at HPE
      generalize parI ms [105, 110] sp.ins (L l1) = R1 at *
      obtain ⟨ins, ic⟩ := R1
      dsimp only at HPI HPE
      have HALL := Lib.hid (show ∀ W, Kept w1 W → Kept w1 W ∧ W.cell? ⟨w.heap.size, 0, none⟩ = some (.slice AE ms.length ce) ∧ W.cell? ⟨w.heap.size, 1, none⟩ = some (.slice At nt ct) ∧ W.cell? ⟨w.heap.size, 2, none⟩ = some (.slice (some ⟨b1, o1, none⟩) scs.length cs) ∧ W.cell? ⟨b2, o2 + 1, none⟩ = some (.string l1) ∧ W.cell? ⟨b1, o1 + k * 5 + 2, none⟩ = some iv from fun W h => ⟨h, h.cell (p := ⟨w.heap.size, _, none⟩) (by simp only; omega) c0, h.cell (p := ⟨w.heap.size, _, none⟩) (by simp only; omega) c1, h.cell (p := ⟨w.heap.size, _, none⟩) (by simp only; omega) c2, h.cell (p := ⟨b2, _, none⟩) (by simp only; omega) hX1, h.cell (p := ⟨b1, _, none⟩) (by simp only; omega) hv⟩)
      obtain ⟨_, d0, d1, d2, d3, d4⟩ := HALL.out W4 K14
      have l11 := C11.lt
      have HPF := Lib.hid HPE
      clear HPE HPD c0 c1 c2 hX1 hv
      go_wp2_with fail
      go_region_held3 (fun W => Kept w1 W ∧ W.cell? ⟨w.heap.size, 0, none⟩ = some (.slice AE ms.length ce) ∧ W.cell? ⟨w.heap.size, 1, none⟩ = some (.slice At nt ct) ∧ W.cell? ⟨w.heap.size, 2, none⟩ = some (.slice (some ⟨b1, o1, none⟩) scs.length cs) ∧ W.cell? ⟨b2, o2 + 1, none⟩ = some (.string l1) ∧ W.cell? ⟨b1, o1 + k * 5 + 2, none⟩ = some iv)
            ((refine HALL.out _ ?_; (repeat (first | with_reducible exact Kept.refl _ | with_reducible assumption | with_reducible refine Kept.drew ?_ | with_reducible refine Kept.alloc ?_ _ | with_reducible refine Kept.setCell ?_ (by simp only; omega) _ | with_reducible refine Kept.trans ?_ ‹Kept _ _›))))
            ((go_at_call 26; refine (HPI.out _ ?_).mono ?_; (· (repeat (first | with_reducible exact Kept.refl _ | with_reducible assumption | with_reducible refine Kept.drew ?_ | with_reducible refine Kept.alloc ?_ _ | with_reducible refine Kept.setCell ?_ (by simp only; omega) _ | with_reducible refine Kept.trans ?_ ‹Kept _ _›))); rintro e w5 ⟨u, rfl, hG, hk5⟩; obtain ⟨Au, cu, hu, _, _⟩ := hG.form; subst hu; have N11 := C11.drew.kept hk5; have hn1 := N11.cell; have hn2 := N11.frozen; have hn3 := N11.lt; have hsx := Below.size hk5; (try simp at hsx)))
      rename_i hHeld
      clear hHeld
      have M6 := (C6.drew.kept hk5).far (p := ⟨gc, 1, none⟩) (by simp only; omega) (.slice Au ins.length cu)
      have M3 := (C3.drew.kept hk5).far (p := ⟨gc, 1, none⟩) (by simp only; omega) (.slice Au ins.length cu)
      have M11 : Blk _ gc 30 #[.int .i64 d, .slice Au ins.length cu, .slice none 0 0] := N11.set_ 1 (.slice Au ins.length cu)
      have k15 : Kept w1 (w5.setCell ⟨gc, 1, none⟩ (.slice Au ins.length cu)) := (K14.drew.trans hk5).setCell hgc1 _
      have G6 := gath_low (hG.farC (p := ⟨gc, 1, none⟩) (u := .slice Au ins.length cu) (fun b hb => by
        have h : W4.heap.size ≤ b := (hG.owned hb).1
        simp only; omega)) (show gc + 1 ≤ W4.drew.heap.size from l11)
      clear hG N11 hn1 hn2 hn3 hsx C3 C6 C11 b6 l6 f6 K14 KW hk5 d0 d1 d2 d3 d4 HPI l11
      generalize w5.setCell ⟨gc, 1, none⟩ (.slice Au ins.length cu) = W6 at *
      have b6 := M6.cell
      have l6 := M6.lt
      have f6 := M6.frozen
      have K6 := KK1.out.trans k15
      by_cases hic : ic ≠ 0
      · have HR := Lib.hid (HPF.out.trans (if_pos hic))
        have hicb := bne_noV hic
        clear hic
        go_wp2_with fail
        rw [HR.out]
        refine bodyPost_ret (v := .tuple #[.agg #[.int .i64 0, .slice none 0 0, .slice none 0 0], .int .i64 (1 : Nat), .int .i64 ic]) (by simp [results, Tryz.results10, go_sem, b6]) rfl (csPost.none ?_)
        repeat refine Kept.setCell ?_ (by simp only; omega) _
        exact K6
      obtain rfl : ic = 0 := by simpa using hic
      have HPG := Lib.hid (HPF.out.trans (if_neg hic))
      obtain ⟨_, d0, d1, d2, _, _⟩ := HALL.out W6 k15
      clear hic HPF
      have hg6 : gc + 1 ≤ W6.heap.size := M11.lt
      go_upto_region 21 with (go_at_call 27; refine (HMI.out _ K6).mono ?_; rintro e w7 ⟨jv, rfl, hJ, hk7⟩)
      have k17 := k15.trans hk7
      have N11 := M11.kept hk7
      have G7 := G6.keptOwn hk7
      have HJ := Lib.hid hJ
      have HP : Hid (parCs ms scs k s = if (parM ms (memI scs sp).1 (memI scs sp).2 2 (r.map L) []).2.2 ≠ 0 then (cs0, (parM ms (memI scs sp).1 (memI scs sp).2 2 (r.map L) []).2.1, (parM ms (memI scs sp).1 (memI scs sp).2 2 (r.map L) []).2.2) else (⟨d, ins, (parM ms (memI scs sp).1 (memI scs sp).2 2 (r.map L) []).1⟩, 0, 0)) := HPG
      clear hJ hk7 M11 G6 M3 M6 b6 l6 f6 k15 K6 d0 d1 d2 hg6 HALL HPG HMI
      generalize (memI scs sp).1 = mts at *
      generalize (memI scs sp).2 = lim at *
      obtain ⟨hmt, hlim⟩ := hmb
      generalize hls : l0 :: l1 :: r = xs at *
      have HLS := Lib.hid hls
      clear hls
      go_wp2_with fail
      go_loopw [16] (fun z wr => ∃ (i : Nat) (acc : List (List Vl)) (vs : List Value) (mv : Value), z = .int .i64 i ∧ i = 2 + acc.length ∧ i ≤ n ∧ acc.length ≤ 8 ∧ KeptX w7 gc wr ∧ Kept w1 wr ∧ Blk wr gc 30 #[.int .i64 d, .slice Au ins.length cu, mv] ∧ MemR wr w7.heap.size mv vs acc ∧ parM ms mts lim i ((xs.map L).drop i) acc = parM ms mts lim 2 (r.map L) []) (fun z _ => n - (intOf z).toNat)
      case atStart =>
        refine ⟨2, [], [], .slice none 0 0, rfl, rfl, by omega, by decide, ⟨Nat.le_refl _, fun _ _ _ => rfl⟩, k17, N11, ⟨rfl, GathR.nil _ _ _, fun j l v h => by simp at h⟩, ?_⟩
        rw [← HLS.out]
        rfl
      case round =>
        obtain ⟨i, acc, vs, mv, rfl, hi2, hin, ha8, hKX, hK1, hB, ⟨hvl, hGm, hGv⟩, hrun⟩ := hrel
        have hi2a : i ≤ 2 + acc.length := by omega
        have hi2b : 2 + acc.length ≤ i := by omega
        clear hi2
        have b6 := (H6.out.kept hK1).cell
        have l6 := (H6.out.kept hK1).lt
        have f6 := (H6.out.kept hK1).frozen
        have K6 := KK1.out.trans hK1
        obtain ⟨Am, cm, hmv, _, _⟩ := hGm.form
        subst hmv
        have b11 := hB.cell
        have l11 := hB.lt
        have f11 := hB.frozen
        have HB := Lib.hid hB
        have HVL := Lib.hid hvl
        by_cases hlt : i < n
        · have hii : (i : Int) < n := by omega
          have hg1 : xs[i]? = some (xs[i]'(by have := HN.out; omega)) := List.getElem?_eq_getElem _
          have hgm : (xs.map L)[i]? = some (L (xs[i]'(by have := HN.out; omega))) := by rw [List.getElem?_map, hg1]; rfl
          have hX1 := hK1.cell (p := ⟨b2, o2 + i, none⟩) (by simp only; omega) (HC2.out i _ hg1)
          have hxz := HZ.out _ (List.mem_of_getElem? hg1)
          rw [parM_at hgm] at hrun
          generalize xs[i]'(by have := HN.out; omega) = X at *
          by_cases hfull : lim ≤ acc.length
          · rw [if_pos hfull] at hrun
            have HR := Lib.hid (show parCs ms scs k s = (cs0, i, 4) by rw [HP.out, ← hrun]; rfl)
            have hfi : (lim : Int) ≤ vs.length := by omega
            clear hrun hGm hGv hg1 hgm hX1
            go_wp2_with fail
            rw [HR.out]
            refine bodyPost_ret (v := .tuple #[.agg #[.int .i64 0, .slice none 0 0, .slice none 0 0], .int .i64 (i : Nat), .int .i64 4]) (by simp [results, Tryz.results10, go_sem, b6]) rfl (csPost.none ?_)
            repeat refine Kept.setCell ?_ (by simp only; omega) _
            exact K6
          rw [if_neg hfull] at hrun
          have hfi : ¬ ((lim : Int) ≤ vs.length) := by omega
          have hfi2 : ¬ lim ≤ vs.length := by omega
          have hJr := HJ.out.keptX N11 hKX
          have HPI := Lib.hid (fun w' (h : Kept wr w') => parseValues_any (.slice AE ms.length ce) At (some ⟨b1, o1, none⟩) nt ct scs.length cs jv ms mts X ⟨#[109, 101, 109, 98, 101, 114]⟩ w' (HE.out.kept (K6.trans h)) (hJr.kept h) (Nat.le_trans hxz (by decide)) (by decide) (by decide) hmt (HX.out.kept (K6.trans h)) (HMO.out.kept (K6.trans h)))
          unfold pvPost at HPI
          rw [show L ⟨#[109, 101, 109, 98, 101, 114]⟩ = [109, 101, 109, 98, 101, 114] from rfl] at HPI
          generalize parI ms [109, 101, 109, 98, 101, 114] mts (L X) = R2 at *
          obtain ⟨vl, ic⟩ := R2
          dsimp only at HPI hrun
          have B3 := H3.out.kept hK1
          have d0 := B3.cell 0
          have d1 := B3.cell 1
          have d2 := B3.cell 2
          have d3 := B3.lt
          simp only [List.getElem?_toArray, List.getElem?_cons_zero, List.getElem?_cons_succ] at d0 d1 d2
          have d4 : b2 < wr.heap.size := Nat.lt_of_lt_of_le (show b2 < w1.heap.size by omega) hK1.size
          have HALL := Lib.hid (show ∀ W, Kept wr W → Kept wr W ∧ W.cell? ⟨w.heap.size, 0, none⟩ = some (.slice AE ms.length ce) ∧ W.cell? ⟨w.heap.size, 1, none⟩ = some (.slice At nt ct) ∧ W.cell? ⟨w.heap.size, 2, none⟩ = some (.slice (some ⟨b1, o1, none⟩) scs.length cs) ∧ W.cell? ⟨b2, o2 + i, none⟩ = some (.string X) from fun W h => ⟨h, h.cell (p := ⟨w.heap.size, _, none⟩) d3 d0, h.cell (p := ⟨w.heap.size, _, none⟩) d3 d1, h.cell (p := ⟨w.heap.size, _, none⟩) d3 d2, h.cell (p := ⟨b2, _, none⟩) d4 hX1⟩)
          have HRUN := Lib.hid hrun
          have HGM := Lib.hid hGm
          have HGV := Lib.hid hGv
          have C6 := H6.out.kept hK1
          have HK1 := Lib.hid hK1
          have HKX := Lib.hid hKX
          clear hrun hGm hGv hg1 hgm hfull hvl b6 l6 f6 B3 hB hJr hKX
          go_wp2_with fail
          go_region_held3 (fun W => Kept wr W ∧ W.cell? ⟨w.heap.size, 0, none⟩ = some (.slice AE ms.length ce) ∧ W.cell? ⟨w.heap.size, 1, none⟩ = some (.slice At nt ct) ∧ W.cell? ⟨w.heap.size, 2, none⟩ = some (.slice (some ⟨b1, o1, none⟩) scs.length cs) ∧ W.cell? ⟨b2, o2 + i, none⟩ = some (.string X))
            ((refine HALL.out _ ?_; (repeat (first | with_reducible exact Kept.refl _ | with_reducible assumption | with_reducible refine Kept.drew ?_ | with_reducible refine Kept.alloc ?_ _ | with_reducible refine Kept.setCell ?_ (by simp only; omega) _ | with_reducible refine Kept.trans ?_ ‹Kept _ _›))))
            ((go_at_call 26; refine (HPI.out _ ?_).mono ?_; (· (repeat (first | with_reducible exact Kept.refl _ | with_reducible assumption | with_reducible refine Kept.drew ?_ | with_reducible refine Kept.alloc ?_ _ | with_reducible refine Kept.setCell ?_ (by simp only; omega) _ | with_reducible refine Kept.trans ?_ ‹Kept _ _›))); rintro e w5 ⟨u, rfl, hG, hk5⟩; obtain ⟨Au2, cu2, hu, _, _⟩ := hG.form; subst hu))
          rename_i hHeld
          clear hHeld
          have k5 : Kept wr w5 := (Kept.refl wr).drew.trans hk5
          have b6 := (C6.kept k5).cell
          have l6 := (C6.kept k5).lt
          have f6 := (C6.kept k5).frozen
          by_cases hic : ic = 0
          · subst hic
            have HM5 := MemR.keptOwn ⟨HVL.out, HGM.out, HGV.out⟩ k5
            have HG4 := HM5.2.1
            have HO4 := HG4.alloc (.cells #[.slice Au2 vl.length cu2] 27)
            have HU5 := gath_low hG (show w7.heap.size ≤ wr.drew.heap.size from HKX.out.1)
            have hgw : gc < w7.heap.size := N11.lt
            have hw75 : w7.heap.size ≤ w5.heap.size := Nat.le_trans HKX.out.1 k5.size
            have hacl : vs.length + 1 ≤ maxLen := by have := HVL.out; unfold maxLen; omega
            have hacl2 : (vs.length + 1) * 24 ≤ 140737488355328 := by have := HVL.out; omega
            have B5 := HB.out.kept k5
            have n1 := B5.cell
            have n2 := B5.lt
            have n3 := B5.frozen
            obtain ⟨i0, hi, hz0, hz1, hz2⟩ := info_parts Tryz.infoVals
            have HRUN2 := Lib.hid (HRUN.out.symm.trans (if_pos rfl)).symm
            clear b11 l11 f11
            go_wp2_with (at_builtin; refine wpList_append_own _ rfl (.tmp 120) (.tmp 122) 28 rfl w7.heap.size 27 i0 (.slice none 0 0) 1 24 Tryz.underlying28 hi hz0 hz1 hz2 rfl (by decide) _ vs.length (vs.flatMap fun v => [v]) rfl HO4 ⟨w5.heap.size, 0, none⟩ 1 1 [.slice Au2 vl.length cu2] rfl rfl blk_cells (by intro u hu; obtain rfl := List.mem_singleton.1 hu; rfl) hacl hacl2 (by simp; omega) ?_; intro v' w8 hown' hgrow _; replace hgrow : (w5.alloc (.cells #[.slice Au2 vl.length cu2] 27)).grownBy w8 (Value.slice Am vs.length cm).ownBlock := hgrow; have GS : GathR w8 w7.heap.size 27 (fun v => [v]) 1 v' (vs ++ [.slice Au2 vl.length cu2]) := GathR.snoc hown'; obtain ⟨Am2, cm2, hv', _, _⟩ := GS.form; subst hv'; have N8 : Blk w8 gc 30 #[.int .i64 d, .slice Au ins.length cu, .slice Am vs.length cm] := (ownGrown_block HG4 hgrow B5.lt hgw).trans B5; have n81 := N8.cell; have n82 := N8.lt; have n83 := N8.frozen)
            have GS2 : GathR w8 w7.heap.size 27 (fun v => [v]) 1 (.slice Am2 (vs.length + 1) cm2) (vs ++ [.slice Au2 vl.length cu2]) := by
              have := GS
              rwa [List.length_append, List.length_singleton] at this
            have N9 : Blk (w8.setCell ⟨gc, 2, none⟩ (.slice Am2 (vs.length + 1) cm2)) gc 30 #[.int .i64 d, .slice Au ins.length cu, .slice Am2 (vs.length + 1) cm2] := N8.set_ 2 (.slice Am2 (vs.length + 1) cm2)
            refine ⟨⟨i + 1, acc ++ [vl], vs ++ [.slice Au2 vl.length cu2], .slice Am2 (vs.length + 1) cm2, rfl, ?_, hlt, ?_, ⟨?_, fun b hb hne => ?_⟩, ?_, N9, ?_, HRUN2.out⟩, by simp [intOf]; omega⟩
            · rw [List.length_append, List.length_singleton]; omega
            · rw [List.length_append, List.length_singleton]; have := HVL.out; omega
            · have h8 := ownGrown_size hgrow
              have h9 : w7.heap.size ≤ w8.heap.size := by omega
              first | (simp only [World.setCell, Array.size_modify]; exact h9) | (simp [World.setCell]; exact h9) | (simp; omega)
            · exact (Below.heap_setCell w8 ⟨gc, 2, none⟩ _ b hne).trans ((ownGrown_block HG4 hgrow (Nat.lt_of_lt_of_le hb hw75) hb).trans ((k5.block b (Nat.lt_of_lt_of_le hb HKX.out.1)).trans (HKX.out.2 b hb hne)))
            · exact (ownGrown_kept (HK1.out.trans k5) HG4 (by omega) hgrow).setCell hgc1 _
            · exact (HM5.snoc HU5 hgrow GS2).far (p := ⟨gc, 2, none⟩) _ hgw
          · have HR := Lib.hid (show parCs ms scs k s = (cs0, i, ic) by
              rw [HP.out, ← HRUN.out, if_neg hic]
              exact if_pos hic)
            have hicb := bne_noV hic
            go_wp2_with fail
            rw [HR.out]
            refine bodyPost_ret (v := .tuple #[.agg #[.int .i64 0, .slice none 0 0, .slice none 0 0], .int .i64 (i : Nat), .int .i64 ic]) (by simp [results, Tryz.results10, go_sem, b6]) rfl (csPost.none ?_)
            repeat refine Kept.setCell ?_ (by simp only; omega) _
            exact (K6.trans k5)
        · obtain rfl : i = n := by omega
          rw [parM_end (by rw [List.length_map]; have := HN.out; omega)] at hrun
          have HR := Lib.hid (show parCs ms scs k s = (⟨d, ins, acc⟩, 0, 0) by rw [HP.out, ← hrun]; rfl)
          clear hrun
          go_wp2_with fail
          rw [HR.out]
          refine bodyPost_ret (v := .tuple #[.agg #[.int .i64 d, .slice Au ins.length cu, .slice Am acc.length cm], .int .i64 (0 : Nat), .int .i64 0]) (by simp [results, Tryz.results10, go_sem, b6]) rfl ⟨.slice Au ins.length cu, .slice Am acc.length cm, rfl, ?_, ?_, ?_⟩
          · have G8 := G7.keptX hKX (Nat.lt_succ_self _)
            refine GathR.recs (B := gc + 1) (e := 59) (fun _ => rfl) ?_
            repeat refine GathR.farC ?_ (fun b hb => by have := (G8.owned hb).1; simp only; omega)
            exact G8
          · have hM : MemR wr w7.heap.size (.slice Am vs.length cm) vs acc := ⟨hvl, hGm, hGv⟩
            have := N11.lt
            have hM2 := ((hM.far (p := ⟨w.heap.size + 1, 0, none⟩) (.int .i64 d) (by simp only; omega)).far (p := ⟨w.heap.size + 1, 1, none⟩) (.slice Au ins.length cu) (by simp only; omega)).far (p := ⟨w.heap.size + 1, 2, none⟩) (.slice Am vs.length cm) (by simp only; omega)
            have hM3 := hM2.mems ha8
            rwa [hvl] at hM3
          · repeat refine Kept.setCell ?_ (by simp only; omega) _
            exact K6
end Go.Proofs.YtemejaomfbhldaaGreatDoor
