/- What Format of package value, and of its reference, computes. -/
import Derived.Test.YtjdljholajacdaaDoorValC
import Derived.Test.YtjdljholajacdaaDoorValLaw
import Derived.Test.YtjdljholajacdaaDoorLaw01A
namespace Go.Proofs.YtjdljholajacdaaDoor
open Go.RowKit

theorem fixS_small (n : Int) (p : Int) (h0 : -9223372036854775808 ≤ n) (h1 : n ≤ 9223372036854775807) (hp : p ≤ 9) : (fixS n p).size ≤ 1000000 := by
  have hl := absD_len n h0 h1
  unfold fixS
  split
  · have := numS_size n h0 h1; omega
  · rw [bs_size, fixT, List.length_append, List.length_append, List.length_append, List.length_take, List.length_drop, padD, List.length_append, List.length_replicate, sgn]
    split <;> simp <;> omega
theorem inB_six {n : Int} {j : Nat} {ms : List (List ByteArray)} {l : List ByteArray} (hl : ms[j]? = some l) (hv : vtB 6 j ms = true) : inB n 6 j ms = (decide (0 ≤ n) && decide (n ≤ (l.length : Int) - 1)) := by
  rw [inB, bndS, if_pos hv]
  show (decide (0 ≤ n) && decide (n ≤ ((memS (j : Int) ms).length : Int) - 1)) = _
  rw [memS, Int.toNat_natCast, hl]; rfl
theorem str_ret {a b : ByteArray} {c d : Int} (h : (a, c) = (b, d)) : Ending.returned (.tuple #[.string a, .int .i64 c]) = Ending.returned (.tuple #[.string b, .int .i64 d]) := by
  obtain ⟨rfl, rfl⟩ := Prod.mk.inj h; rfl

set_option maxRecDepth 100000 in
set_option maxHeartbeats 8000000 in
theorem vformat_any (k e n : Int) (v : Value) (ms : List (List ByteArray)) (w : World) (hE : Enums w v ms) (h0 : -9223372036854775808 ≤ n) (h1 : n ≤ 9223372036854775807) (hM : Mon w) (hP : Pow w) :
    Calls Tryd.prog 16 #[.agg #[.int .i64 k, .int .i64 e, .int .i64 n], v] w fun r w' => r = .returned (.tuple #[.string (vfmtS k e n ms).1, .int .i64 (vfmtS k e n ms).2]) ∧ Kept w w' := by
  have hE1 := fun w' (h : Kept w w') => hE.kept h
  have hT := Lib.hid (fun w h => vtype_any k e v ms w h)
  have hI := Lib.hid (fun w h => within_any n k e v ms w h)
  have hF2 := Lib.hid (fun w hP => fmtInt_any n h0 h1 w hP)
  have hF5 := Lib.hid (fun w hM hP => format_any n w hM hP)
  cases hv : vtB k e ms
  · have HR := Lib.hid (show vfmtS k e n ms = (⟨#[]⟩, 8) by rw [vfmtS, hv]; rfl)
    rw [hv] at hT
    clear hv
    go_enter Tryd.func16, Tryd.ntmps16
    go_wp2_with (first
      | (go_at_call 25; refine (hT.out _ (hE1 _ (((Kept.refl _).alloc _).alloc _))).mono ?_; rintro r w1 ⟨rfl, hk⟩; have hK := (((Kept.refl _).alloc _).alloc _).trans hk; have B := hk.blk2.1; have B2 := hk.blk2.2; have c1 := B.cell 2; have c2 := B2.cell 0; have c3 := B2.cell 1; have B2lt := B2.lt; clear hk)
      | (go_at_call 38; refine (hI.out _ (hE1 _ hK)).mono ?_; rintro r w2 ⟨rfl, hk2⟩; have hK := hK.trans hk2; have B := B.kept hk2; have c0 := B.cell 0; have c1 := B.cell 2; clear hk2)
      | (go_at_call 39; refine (hF2.out _ (hP.kept hK)).mono ?_; rintro r w3 ⟨rfl, hk3⟩; have hK := hK.trans hk3)
      | (go_at_call 40; refine (hF3.out _ (hP.kept hK)).mono ?_; rintro r w3 ⟨rfl, hk3⟩; have hK := hK.trans hk3)
      | (go_at_call 41; refine (hF5.out _ (hM.kept hK) (hP.kept hK)).mono ?_; rintro r w3 ⟨rfl, hk3⟩; have hK := hK.trans hk3))
    go_ret2
    rw [HR.out]
    exact ⟨rfl, hK⟩
  cases hi : inB n k e ms
  · have HR := Lib.hid (show vfmtS k e n ms = (⟨#[]⟩, 3) by rw [vfmtS, hv, hi]; rfl)
    rw [hv] at hT
    rw [hi] at hI
    clear hv hi
    go_enter Tryd.func16, Tryd.ntmps16
    go_wp2_with (first
      | (go_at_call 25; refine (hT.out _ (hE1 _ (((Kept.refl _).alloc _).alloc _))).mono ?_; rintro r w1 ⟨rfl, hk⟩; have hK := (((Kept.refl _).alloc _).alloc _).trans hk; have B := hk.blk2.1; have B2 := hk.blk2.2; have c1 := B.cell 2; have c2 := B2.cell 0; have c3 := B2.cell 1; have B2lt := B2.lt; clear hk)
      | (go_at_call 38; refine (hI.out _ (hE1 _ hK)).mono ?_; rintro r w2 ⟨rfl, hk2⟩; have hK := hK.trans hk2; have B := B.kept hk2; have c0 := B.cell 0; have c1 := B.cell 2; clear hk2)
      | (go_at_call 39; refine (hF2.out _ (hP.kept hK)).mono ?_; rintro r w3 ⟨rfl, hk3⟩; have hK := hK.trans hk3)
      | (go_at_call 40; refine (hF3.out _ (hP.kept hK)).mono ?_; rintro r w3 ⟨rfl, hk3⟩; have hK := hK.trans hk3)
      | (go_at_call 41; refine (hF5.out _ (hM.kept hK) (hP.kept hK)).mono ?_; rintro r w3 ⟨rfl, hk3⟩; have hK := hK.trans hk3))
    go_ret2
    rw [HR.out]
    exact ⟨rfl, hK⟩
  have HR := Lib.hid (show vfmtS k e n ms = (vtext k e n ms, 0) by rw [vfmtS, hv, hi]; rfl)
  rw [hv] at hT
  rw [hi] at hI
  rcases vt_true hv with ⟨hk, rfl⟩ | ⟨rfl, j, rfl, hj⟩
  · have hb := (inB_iff hv).1 hi
    clear hv hi
    rcases hk with rfl | rfl | rfl | rfl | rfl
    · obtain ⟨b0, b1⟩ : 0 ≤ n ∧ n ≤ 1 := hb
      obtain rfl | rfl : n = 0 ∨ n = 1 := by omega
      all_goals
        go_enter Tryd.func16, Tryd.ntmps16
        go_wp2_with (first
      | (go_at_call 25; refine (hT.out _ (hE1 _ (((Kept.refl _).alloc _).alloc _))).mono ?_; rintro r w1 ⟨rfl, hk⟩; have hK := (((Kept.refl _).alloc _).alloc _).trans hk; have B := hk.blk2.1; have B2 := hk.blk2.2; have c1 := B.cell 2; have c2 := B2.cell 0; have c3 := B2.cell 1; have B2lt := B2.lt; clear hk)
      | (go_at_call 38; refine (hI.out _ (hE1 _ hK)).mono ?_; rintro r w2 ⟨rfl, hk2⟩; have hK := hK.trans hk2; have B := B.kept hk2; have c0 := B.cell 0; have c1 := B.cell 2; clear hk2)
      | (go_at_call 39; refine (hF2.out _ (hP.kept hK)).mono ?_; rintro r w3 ⟨rfl, hk3⟩; have hK := hK.trans hk3)
      | (go_at_call 40; refine (hF3.out _ (hP.kept hK)).mono ?_; rintro r w3 ⟨rfl, hk3⟩; have hK := hK.trans hk3)
      | (go_at_call 41; refine (hF5.out _ (hM.kept hK) (hP.kept hK)).mono ?_; rintro r w3 ⟨rfl, hk3⟩; have hK := hK.trans hk3))
        go_ret2
        rw [HR.out]
        exact ⟨rfl, hK⟩
    · go_enter Tryd.func16, Tryd.ntmps16
      go_wp2_with (first
      | (go_at_call 25; refine (hT.out _ (hE1 _ (((Kept.refl _).alloc _).alloc _))).mono ?_; rintro r w1 ⟨rfl, hk⟩; have hK := (((Kept.refl _).alloc _).alloc _).trans hk; have B := hk.blk2.1; have B2 := hk.blk2.2; have c1 := B.cell 2; have c2 := B2.cell 0; have c3 := B2.cell 1; have B2lt := B2.lt; clear hk)
      | (go_at_call 38; refine (hI.out _ (hE1 _ hK)).mono ?_; rintro r w2 ⟨rfl, hk2⟩; have hK := hK.trans hk2; have B := B.kept hk2; have c0 := B.cell 0; have c1 := B.cell 2; clear hk2)
      | (go_at_call 39; refine (hF2.out _ (hP.kept hK)).mono ?_; rintro r w3 ⟨rfl, hk3⟩; have hK := hK.trans hk3)
      | (go_at_call 40; refine (hF3.out _ (hP.kept hK)).mono ?_; rintro r w3 ⟨rfl, hk3⟩; have hK := hK.trans hk3)
      | (go_at_call 41; refine (hF5.out _ (hM.kept hK) (hP.kept hK)).mono ?_; rintro r w3 ⟨rfl, hk3⟩; have hK := hK.trans hk3))
      go_ret2
      rw [HR.out]
      exact ⟨rfl, hK⟩
    · have hF3 : Hid (∀ w, Pow w → Calls Tryd.prog 40 #[.int .i64 n, .int .i64 2] w fun e w' => e = .returned (.string (fixS n 2)) ∧ Kept w w') := Lib.hid (fun w hP => formatFixed_any n 2 h0 h1 w hP)
      go_enter Tryd.func16, Tryd.ntmps16
      go_wp2_with (first
      | (go_at_call 25; refine (hT.out _ (hE1 _ (((Kept.refl _).alloc _).alloc _))).mono ?_; rintro r w1 ⟨rfl, hk⟩; have hK := (((Kept.refl _).alloc _).alloc _).trans hk; have B := hk.blk2.1; have B2 := hk.blk2.2; have c1 := B.cell 2; have c2 := B2.cell 0; have c3 := B2.cell 1; have B2lt := B2.lt; clear hk)
      | (go_at_call 38; refine (hI.out _ (hE1 _ hK)).mono ?_; rintro r w2 ⟨rfl, hk2⟩; have hK := hK.trans hk2; have B := B.kept hk2; have c0 := B.cell 0; have c1 := B.cell 2; clear hk2)
      | (go_at_call 39; refine (hF2.out _ (hP.kept hK)).mono ?_; rintro r w3 ⟨rfl, hk3⟩; have hK := hK.trans hk3)
      | (go_at_call 40; refine (hF3.out _ (hP.kept hK)).mono ?_; rintro r w3 ⟨rfl, hk3⟩; have hK := hK.trans hk3)
      | (go_at_call 41; refine (hF5.out _ (hM.kept hK) (hP.kept hK)).mono ?_; rintro r w3 ⟨rfl, hk3⟩; have hK := hK.trans hk3))
      go_ret2
      rw [HR.out]
      exact ⟨rfl, hK⟩
    · have hF3 : Hid (∀ w, Pow w → Calls Tryd.prog 40 #[.int .i64 n, .int .i64 4] w fun e w' => e = .returned (.string (fixS n 4)) ∧ Kept w w') := Lib.hid (fun w hP => formatFixed_any n 4 h0 h1 w hP)
      have hz := fixS_small n 4 h0 h1 (by decide)
      have HT := Lib.hid (show vtext 4 0 n ms = fixS n 4 ++ ⟨#[37]⟩ from rfl)
      generalize fixS n 4 = X at *
      have hz2 : ¬ (9223372036854775807 < X.size + (⟨#[37]⟩ : ByteArray).size) := by show ¬ (_ < X.size + 1); omega
      go_enter Tryd.func16, Tryd.ntmps16
      go_wp2_with (first
      | (go_at_call 25; refine (hT.out _ (hE1 _ (((Kept.refl _).alloc _).alloc _))).mono ?_; rintro r w1 ⟨rfl, hk⟩; have hK := (((Kept.refl _).alloc _).alloc _).trans hk; have B := hk.blk2.1; have B2 := hk.blk2.2; have c1 := B.cell 2; have c2 := B2.cell 0; have c3 := B2.cell 1; have B2lt := B2.lt; clear hk)
      | (go_at_call 38; refine (hI.out _ (hE1 _ hK)).mono ?_; rintro r w2 ⟨rfl, hk2⟩; have hK := hK.trans hk2; have B := B.kept hk2; have c0 := B.cell 0; have c1 := B.cell 2; clear hk2)
      | (go_at_call 39; refine (hF2.out _ (hP.kept hK)).mono ?_; rintro r w3 ⟨rfl, hk3⟩; have hK := hK.trans hk3)
      | (go_at_call 40; refine (hF3.out _ (hP.kept hK)).mono ?_; rintro r w3 ⟨rfl, hk3⟩; have hK := hK.trans hk3)
      | (go_at_call 41; refine (hF5.out _ (hM.kept hK) (hP.kept hK)).mono ?_; rintro r w3 ⟨rfl, hk3⟩; have hK := hK.trans hk3))
      go_ret2
      rw [HR.out, HT.out]
      exact ⟨rfl, hK⟩
    · go_enter Tryd.func16, Tryd.ntmps16
      go_wp2_with (first
      | (go_at_call 25; refine (hT.out _ (hE1 _ (((Kept.refl _).alloc _).alloc _))).mono ?_; rintro r w1 ⟨rfl, hk⟩; have hK := (((Kept.refl _).alloc _).alloc _).trans hk; have B := hk.blk2.1; have B2 := hk.blk2.2; have c1 := B.cell 2; have c2 := B2.cell 0; have c3 := B2.cell 1; have B2lt := B2.lt; clear hk)
      | (go_at_call 38; refine (hI.out _ (hE1 _ hK)).mono ?_; rintro r w2 ⟨rfl, hk2⟩; have hK := hK.trans hk2; have B := B.kept hk2; have c0 := B.cell 0; have c1 := B.cell 2; clear hk2)
      | (go_at_call 39; refine (hF2.out _ (hP.kept hK)).mono ?_; rintro r w3 ⟨rfl, hk3⟩; have hK := hK.trans hk3)
      | (go_at_call 40; refine (hF3.out _ (hP.kept hK)).mono ?_; rintro r w3 ⟨rfl, hk3⟩; have hK := hK.trans hk3)
      | (go_at_call 41; refine (hF5.out _ (hM.kept hK) (hP.kept hK)).mono ?_; rintro r w3 ⟨rfl, hk3⟩; have hK := hK.trans hk3))
      go_ret2
      rw [HR.out]
      exact ⟨rfl, hK⟩
  · obtain ⟨b, off, cap, N, B2, cc, l, hl, hN, hn9, rfl, hb, hcl, hcm⟩ := hE.at_ hj
    have hm := hE
    obtain ⟨_, _, _, hm, _⟩ := hm
    have hb2 := (inB_iff hv).1 hi
    have HT := Lib.hid (show vtext 6 (j : Int) n ms = l[n.toNat]?.getD ⟨#[]⟩ by
      show (memS (j : Int) ms)[n.toNat]?.getD ⟨#[]⟩ = _
      rw [memS, Int.toNat_natCast, hl]; rfl)
    obtain ⟨i, rfl⟩ : ∃ i : Nat, n = i := ⟨n.toNat, by have : 0 ≤ n := hb2.1; omega⟩
    rw [Int.toNat_natCast] at HT
    have hiN : i < N := by
      have h2 : (i : Int) ≤ ((memS (j : Int) ms).length : Int) - 1 := hb2.2
      rw [memS, Int.toNat_natCast, hl, Option.getD_some, hN] at h2
      omega
    obtain ⟨b3, off3, rfl, hb3, hc3⟩ := hcm (by omega)
    have hc4 := hc3 i hiN
    clear hc3 hcm hb2 hv hi hl hN
    generalize l[i]?.getD ⟨#[]⟩ = Z at *
    have hji : (j : Int) < ms.length := by omega
    have hiI : (i : Int) < N := by omega
    go_enter Tryd.func16, Tryd.ntmps16
    go_wp2_with (first
      | (go_at_call 25; refine (hT.out _ (hE1 _ (((Kept.refl _).alloc _).alloc _))).mono ?_; rintro r w1 ⟨rfl, hk⟩; have hK := (((Kept.refl _).alloc _).alloc _).trans hk; have B := hk.blk2.1; have B2 := hk.blk2.2; have c1 := B.cell 2; have c2 := B2.cell 0; have c3 := B2.cell 1; have B2lt := B2.lt; clear hk)
      | (go_at_call 38; refine (hI.out _ (hE1 _ hK)).mono ?_; rintro r w2 ⟨rfl, hk2⟩; have hK := hK.trans hk2; have B := B.kept hk2; have c0 := B.cell 0; have c1 := B.cell 2; clear hk2)
      | (go_at_call 39; refine (hF2.out _ (hP.kept hK)).mono ?_; rintro r w3 ⟨rfl, hk3⟩; have hK := hK.trans hk3)
      | (go_at_call 40; refine (hF3.out _ (hP.kept hK)).mono ?_; rintro r w3 ⟨rfl, hk3⟩; have hK := hK.trans hk3)
      | (go_at_call 41; refine (hF5.out _ (hM.kept hK) (hP.kept hK)).mono ?_; rintro r w3 ⟨rfl, hk3⟩; have hK := hK.trans hk3))
    have d1 := KW.cell B.lt (B.cell 1)
    have d2 := KW.cell B.lt (B.cell 2)
    have hkl := KW.cell (Nat.lt_of_lt_of_le hb hK.size) (hK.cell (p := ⟨b, off + j * 2 + 1, none⟩) hb hcl)
    have hkm := KW.cell (Nat.lt_of_lt_of_le hb3 hK.size) (hK.cell (p := ⟨b3, off3 + i, none⟩) hb3 hc4)
    refine wp_region_kept (by kernel_rfl) (by kernel_rfl) ?_
    repeat (go_big_quiet_step (fail))
    refine wpQuiet_nil ?_
    rintro _ ⟨⟨wx, hx2⟩, rfl⟩
    go_wp2_with fail
    go_ret2
    rw [HR.out, HT.out]
    exact ⟨rfl, hK.trans hx2⟩

set_option maxRecDepth 100000 in
set_option maxHeartbeats 8000000 in
theorem rvformat_any (k e n : Int) (v : Value) (ms : List (List ByteArray)) (w : World) (hE : Enums w v ms) (h0 : -9223372036854775808 ≤ n) (h1 : n ≤ 9223372036854775807) :
    Calls Tryd.prog 17 #[.agg #[.int .i64 k, .int .i64 e, .int .i64 n], v] w fun r w' => r = .returned (.tuple #[.string (vfmtS k e n ms).1, .int .i64 (vfmtS k e n ms).2]) ∧ Kept w w' := by
  have hE1 := fun w' (h : Kept w w') => hE.kept h
  have hT := Lib.hid (fun w h => rvtype_any k e v ms w h)
  have hI := Lib.hid (fun w h => rvalid_any k e n v ms w h)
  have hF2 := Lib.hid (fun w => rfmtInt_any n h0 h1 w)
  have hF5 := Lib.hid (fun w => rformat_any n w)
  cases hv : vtB k e ms
  · have HR := Lib.hid (show vfmtS k e n ms = (⟨#[]⟩, 8) by rw [vfmtS, hv]; rfl)
    rw [hv] at hT
    clear hv hI
    go_enter Tryd.func17, Tryd.ntmps17
    go_wp2_with (first
      | (go_at_call 21; refine (rtype_any _ _ _ _).mono ?_; rintro r w0 ⟨rfl, hk⟩; have hK := ((Kept.refl _).alloc _).trans hk; have B := hk.blk1; have c0 := B.cell 0; have c1 := B.cell 1; have c2 := B.cell 2; clear hk)
      | (go_at_call 26; refine (hT.out _ (hE1 _ hK)).mono ?_; rintro r w1 ⟨rfl, hk⟩; have hK := hK.trans hk; have B := B.kept hk; have c0 := B.cell 0; have c1 := B.cell 1; have c2 := B.cell 2; clear hk)
      | (go_at_call 20; refine (hI.out _ (hE1 _ hK)).mono ?_; rintro r w2 ⟨rfl, hk2⟩; have hK := hK.trans hk2; have B := B.kept hk2; have c0 := B.cell 0; have c1 := B.cell 2; clear hk2)
      | (go_at_call 42; refine (hF2.out _).mono ?_; rintro r w3 ⟨rfl, hk3⟩; have hK := hK.trans hk3)
      | (go_at_call 43; refine (hF3.out _).mono ?_; rintro r w3 ⟨rfl, hk3⟩; have hK := hK.trans hk3)
      | (go_at_call 44; refine (hF5.out _).mono ?_; rintro r w3 ⟨rfl, hk3⟩; have hK := hK.trans hk3))
    go_ret2
    rw [HR.out]
    exact ⟨rfl, hK⟩
  cases hi : inB n k e ms
  · have HR := Lib.hid (show vfmtS k e n ms = (⟨#[]⟩, 3) by rw [vfmtS, hv, hi]; rfl)
    rw [hv] at hT
    rw [show validB k e n ms = false by rw [validB, hv, hi]; rfl] at hI
    clear hv hi
    go_enter Tryd.func17, Tryd.ntmps17
    go_wp2_with (first
      | (go_at_call 21; refine (rtype_any _ _ _ _).mono ?_; rintro r w0 ⟨rfl, hk⟩; have hK := ((Kept.refl _).alloc _).trans hk; have B := hk.blk1; have c0 := B.cell 0; have c1 := B.cell 1; have c2 := B.cell 2; clear hk)
      | (go_at_call 26; refine (hT.out _ (hE1 _ hK)).mono ?_; rintro r w1 ⟨rfl, hk⟩; have hK := hK.trans hk; have B := B.kept hk; have c0 := B.cell 0; have c1 := B.cell 1; have c2 := B.cell 2; clear hk)
      | (go_at_call 20; refine (hI.out _ (hE1 _ hK)).mono ?_; rintro r w2 ⟨rfl, hk2⟩; have hK := hK.trans hk2; have B := B.kept hk2; have c0 := B.cell 0; have c1 := B.cell 2; clear hk2)
      | (go_at_call 42; refine (hF2.out _).mono ?_; rintro r w3 ⟨rfl, hk3⟩; have hK := hK.trans hk3)
      | (go_at_call 43; refine (hF3.out _).mono ?_; rintro r w3 ⟨rfl, hk3⟩; have hK := hK.trans hk3)
      | (go_at_call 44; refine (hF5.out _).mono ?_; rintro r w3 ⟨rfl, hk3⟩; have hK := hK.trans hk3))
    go_ret2
    rw [HR.out]
    exact ⟨rfl, hK⟩
  have HR := Lib.hid (show vfmtS k e n ms = (vtext k e n ms, 0) by rw [vfmtS, hv, hi]; rfl)
  rw [hv] at hT
  rw [show validB k e n ms = true by rw [validB, hv, hi]; rfl] at hI
  rcases vt_true hv with ⟨hk, rfl⟩ | ⟨rfl, j, rfl, hj⟩
  · have hb := (inB_iff hv).1 hi
    clear hv hi
    rcases hk with rfl | rfl | rfl | rfl | rfl
    · obtain ⟨b0, b1⟩ : 0 ≤ n ∧ n ≤ 1 := hb
      obtain rfl | rfl : n = 0 ∨ n = 1 := by omega
      all_goals
        go_enter Tryd.func17, Tryd.ntmps17
        go_wp2_with (first
      | (go_at_call 21; refine (rtype_any _ _ _ _).mono ?_; rintro r w0 ⟨rfl, hk⟩; have hK := ((Kept.refl _).alloc _).trans hk; have B := hk.blk1; have c0 := B.cell 0; have c1 := B.cell 1; have c2 := B.cell 2; clear hk)
      | (go_at_call 26; refine (hT.out _ (hE1 _ hK)).mono ?_; rintro r w1 ⟨rfl, hk⟩; have hK := hK.trans hk; have B := B.kept hk; have c0 := B.cell 0; have c1 := B.cell 1; have c2 := B.cell 2; clear hk)
      | (go_at_call 20; refine (hI.out _ (hE1 _ hK)).mono ?_; rintro r w2 ⟨rfl, hk2⟩; have hK := hK.trans hk2; have B := B.kept hk2; have c0 := B.cell 0; have c1 := B.cell 2; clear hk2)
      | (go_at_call 42; refine (hF2.out _).mono ?_; rintro r w3 ⟨rfl, hk3⟩; have hK := hK.trans hk3)
      | (go_at_call 43; refine (hF3.out _).mono ?_; rintro r w3 ⟨rfl, hk3⟩; have hK := hK.trans hk3)
      | (go_at_call 44; refine (hF5.out _).mono ?_; rintro r w3 ⟨rfl, hk3⟩; have hK := hK.trans hk3))
        go_ret2
        rw [HR.out]
        exact ⟨rfl, hK⟩
    · go_enter Tryd.func17, Tryd.ntmps17
      go_wp2_with (first
      | (go_at_call 21; refine (rtype_any _ _ _ _).mono ?_; rintro r w0 ⟨rfl, hk⟩; have hK := ((Kept.refl _).alloc _).trans hk; have B := hk.blk1; have c0 := B.cell 0; have c1 := B.cell 1; have c2 := B.cell 2; clear hk)
      | (go_at_call 26; refine (hT.out _ (hE1 _ hK)).mono ?_; rintro r w1 ⟨rfl, hk⟩; have hK := hK.trans hk; have B := B.kept hk; have c0 := B.cell 0; have c1 := B.cell 1; have c2 := B.cell 2; clear hk)
      | (go_at_call 20; refine (hI.out _ (hE1 _ hK)).mono ?_; rintro r w2 ⟨rfl, hk2⟩; have hK := hK.trans hk2; have B := B.kept hk2; have c0 := B.cell 0; have c1 := B.cell 2; clear hk2)
      | (go_at_call 42; refine (hF2.out _).mono ?_; rintro r w3 ⟨rfl, hk3⟩; have hK := hK.trans hk3)
      | (go_at_call 43; refine (hF3.out _).mono ?_; rintro r w3 ⟨rfl, hk3⟩; have hK := hK.trans hk3)
      | (go_at_call 44; refine (hF5.out _).mono ?_; rintro r w3 ⟨rfl, hk3⟩; have hK := hK.trans hk3))
      go_ret2
      rw [HR.out]
      exact ⟨rfl, hK⟩
    · have hF3 : Hid (∀ w, Calls Tryd.prog 43 #[.int .i64 n, .int .i64 2] w fun e w' => e = .returned (.string (fixS n 2)) ∧ Kept w w') := Lib.hid (fun w => rformatFixed_any n 2 h0 h1 w)
      go_enter Tryd.func17, Tryd.ntmps17
      go_wp2_with (first
      | (go_at_call 21; refine (rtype_any _ _ _ _).mono ?_; rintro r w0 ⟨rfl, hk⟩; have hK := ((Kept.refl _).alloc _).trans hk; have B := hk.blk1; have c0 := B.cell 0; have c1 := B.cell 1; have c2 := B.cell 2; clear hk)
      | (go_at_call 26; refine (hT.out _ (hE1 _ hK)).mono ?_; rintro r w1 ⟨rfl, hk⟩; have hK := hK.trans hk; have B := B.kept hk; have c0 := B.cell 0; have c1 := B.cell 1; have c2 := B.cell 2; clear hk)
      | (go_at_call 20; refine (hI.out _ (hE1 _ hK)).mono ?_; rintro r w2 ⟨rfl, hk2⟩; have hK := hK.trans hk2; have B := B.kept hk2; have c0 := B.cell 0; have c1 := B.cell 2; clear hk2)
      | (go_at_call 42; refine (hF2.out _).mono ?_; rintro r w3 ⟨rfl, hk3⟩; have hK := hK.trans hk3)
      | (go_at_call 43; refine (hF3.out _).mono ?_; rintro r w3 ⟨rfl, hk3⟩; have hK := hK.trans hk3)
      | (go_at_call 44; refine (hF5.out _).mono ?_; rintro r w3 ⟨rfl, hk3⟩; have hK := hK.trans hk3))
      go_ret2
      rw [HR.out]
      exact ⟨rfl, hK⟩
    · have hF3 : Hid (∀ w, Calls Tryd.prog 43 #[.int .i64 n, .int .i64 4] w fun e w' => e = .returned (.string (fixS n 4)) ∧ Kept w w') := Lib.hid (fun w => rformatFixed_any n 4 h0 h1 w)
      have hz := fixS_small n 4 h0 h1 (by decide)
      have HT := Lib.hid (show vtext 4 0 n ms = fixS n 4 ++ ⟨#[37]⟩ from rfl)
      generalize fixS n 4 = X at *
      have hz2 : ¬ (9223372036854775807 < X.size + (⟨#[37]⟩ : ByteArray).size) := by show ¬ (_ < X.size + 1); omega
      go_enter Tryd.func17, Tryd.ntmps17
      go_wp2_with (first
      | (go_at_call 21; refine (rtype_any _ _ _ _).mono ?_; rintro r w0 ⟨rfl, hk⟩; have hK := ((Kept.refl _).alloc _).trans hk; have B := hk.blk1; have c0 := B.cell 0; have c1 := B.cell 1; have c2 := B.cell 2; clear hk)
      | (go_at_call 26; refine (hT.out _ (hE1 _ hK)).mono ?_; rintro r w1 ⟨rfl, hk⟩; have hK := hK.trans hk; have B := B.kept hk; have c0 := B.cell 0; have c1 := B.cell 1; have c2 := B.cell 2; clear hk)
      | (go_at_call 20; refine (hI.out _ (hE1 _ hK)).mono ?_; rintro r w2 ⟨rfl, hk2⟩; have hK := hK.trans hk2; have B := B.kept hk2; have c0 := B.cell 0; have c1 := B.cell 2; clear hk2)
      | (go_at_call 42; refine (hF2.out _).mono ?_; rintro r w3 ⟨rfl, hk3⟩; have hK := hK.trans hk3)
      | (go_at_call 43; refine (hF3.out _).mono ?_; rintro r w3 ⟨rfl, hk3⟩; have hK := hK.trans hk3)
      | (go_at_call 44; refine (hF5.out _).mono ?_; rintro r w3 ⟨rfl, hk3⟩; have hK := hK.trans hk3))
      go_ret2
      rw [HR.out, HT.out]
      exact ⟨rfl, hK⟩
    · go_enter Tryd.func17, Tryd.ntmps17
      go_wp2_with (first
      | (go_at_call 21; refine (rtype_any _ _ _ _).mono ?_; rintro r w0 ⟨rfl, hk⟩; have hK := ((Kept.refl _).alloc _).trans hk; have B := hk.blk1; have c0 := B.cell 0; have c1 := B.cell 1; have c2 := B.cell 2; clear hk)
      | (go_at_call 26; refine (hT.out _ (hE1 _ hK)).mono ?_; rintro r w1 ⟨rfl, hk⟩; have hK := hK.trans hk; have B := B.kept hk; have c0 := B.cell 0; have c1 := B.cell 1; have c2 := B.cell 2; clear hk)
      | (go_at_call 20; refine (hI.out _ (hE1 _ hK)).mono ?_; rintro r w2 ⟨rfl, hk2⟩; have hK := hK.trans hk2; have B := B.kept hk2; have c0 := B.cell 0; have c1 := B.cell 2; clear hk2)
      | (go_at_call 42; refine (hF2.out _).mono ?_; rintro r w3 ⟨rfl, hk3⟩; have hK := hK.trans hk3)
      | (go_at_call 43; refine (hF3.out _).mono ?_; rintro r w3 ⟨rfl, hk3⟩; have hK := hK.trans hk3)
      | (go_at_call 44; refine (hF5.out _).mono ?_; rintro r w3 ⟨rfl, hk3⟩; have hK := hK.trans hk3))
      go_ret2
      rw [HR.out]
      exact ⟨rfl, hK⟩
  · obtain ⟨b, off, cap, N, B2, cc, l, hl, hN, hn9, rfl, hb, hcl, hcm⟩ := hE.at_ hj
    have hm := hE
    obtain ⟨_, _, _, hm, _⟩ := hm
    have hb2 := (inB_iff hv).1 hi
    have HT := Lib.hid (show vtext 6 (j : Int) n ms = l[n.toNat]?.getD ⟨#[]⟩ by
      show (memS (j : Int) ms)[n.toNat]?.getD ⟨#[]⟩ = _
      rw [memS, Int.toNat_natCast, hl]; rfl)
    obtain ⟨i, rfl⟩ : ∃ i : Nat, n = i := ⟨n.toNat, by have : 0 ≤ n := hb2.1; omega⟩
    rw [Int.toNat_natCast] at HT
    have hiN : i < N := by
      have h2 : (i : Int) ≤ ((memS (j : Int) ms).length : Int) - 1 := hb2.2
      rw [memS, Int.toNat_natCast, hl, Option.getD_some, hN] at h2
      omega
    obtain ⟨b3, off3, rfl, hb3, hc3⟩ := hcm (by omega)
    have hc4 := hc3 i hiN
    clear hc3 hcm hb2 hv hi hl hN
    generalize l[i]?.getD ⟨#[]⟩ = Z at *
    have hji : (j : Int) < ms.length := by omega
    have hiI : (i : Int) < N := by omega
    go_enter Tryd.func17, Tryd.ntmps17
    go_wp2_with (first
      | (go_at_call 21; refine (rtype_any _ _ _ _).mono ?_; rintro r w0 ⟨rfl, hk⟩; have hK := ((Kept.refl _).alloc _).trans hk; have B := hk.blk1; have c0 := B.cell 0; have c1 := B.cell 1; have c2 := B.cell 2; clear hk)
      | (go_at_call 26; refine (hT.out _ (hE1 _ hK)).mono ?_; rintro r w1 ⟨rfl, hk⟩; have hK := hK.trans hk; have B := B.kept hk; have c0 := B.cell 0; have c1 := B.cell 1; have c2 := B.cell 2; clear hk)
      | (go_at_call 20; refine (hI.out _ (hE1 _ hK)).mono ?_; rintro r w2 ⟨rfl, hk2⟩; have hK := hK.trans hk2; have B := B.kept hk2; have c0 := B.cell 0; have c1 := B.cell 2; clear hk2)
      | (go_at_call 42; refine (hF2.out _).mono ?_; rintro r w3 ⟨rfl, hk3⟩; have hK := hK.trans hk3)
      | (go_at_call 43; refine (hF3.out _).mono ?_; rintro r w3 ⟨rfl, hk3⟩; have hK := hK.trans hk3)
      | (go_at_call 44; refine (hF5.out _).mono ?_; rintro r w3 ⟨rfl, hk3⟩; have hK := hK.trans hk3))
    have d1 := KW.cell B.lt (B.cell 1)
    have d2 := KW.cell B.lt (B.cell 2)
    have hkl := KW.cell (Nat.lt_of_lt_of_le hb hK.size) (hK.cell (p := ⟨b, off + j * 2 + 1, none⟩) hb hcl)
    have hkm := KW.cell (Nat.lt_of_lt_of_le hb3 hK.size) (hK.cell (p := ⟨b3, off3 + i, none⟩) hb3 hc4)
    refine wp_region_kept (by kernel_rfl) (by kernel_rfl) ?_
    repeat (go_big_quiet_step (fail))
    refine wpQuiet_nil ?_
    rintro _ ⟨⟨wx, hx2⟩, rfl⟩
    go_wp2_with fail
    go_ret2
    rw [HR.out, HT.out]
    exact ⟨rfl, hK.trans hx2⟩
end Go.Proofs.YtjdljholajacdaaDoor
