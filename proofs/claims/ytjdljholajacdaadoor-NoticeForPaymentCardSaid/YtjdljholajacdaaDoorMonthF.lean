/- What Format and Parse of package month, and of the reference, compute. -/
import Derived.Test.YtjdljholajacdaaDoorMonth
import Derived.Test.YtjdljholajacdaaDoorMonthText
import Derived.Test.YtjdljholajacdaaDoorMonthD
import Derived.Test.YtjdljholajacdaaDoorMonthE
namespace Go.Proofs.YtjdljholajacdaaDoor
open Go.RowKit

set_option maxRecDepth 100000 in
set_option maxHeartbeats 1000000 in
theorem mformat_any (m : Int) (w : World) (hP : Pow w) :
    Calls Tryd.prog 51 #[.int .i64 m] w fun e w' => e = .returned (.string (monthS m)) ∧ Kept w w' := by
  cases hm : monB m
  · have HR := Lib.hid (monthS_no hm)
    go_enter Tryd.func51, Tryd.ntmps51
    go_wp2_with (go_at_call 80; refine (mvalid_any _ _).mono ?_; rintro e w' ⟨rfl, rfl⟩; rw [hm])
    go_ret
    exact ⟨ret_str HR.out.symm, Kept.refl _⟩
  · have HR := Lib.hid (monthS_yes hm)
    obtain ⟨m0, m1⟩ := monB_iff.1 hm
    have HM := Lib.hid hm
    clear hm
    have hb := mY_bd HM.out
    obtain ⟨b1, b2, b3, b4⟩ := hb
    have HE := Lib.hid (show mY m = 1900 + m / 12 ∧ mM m = m % 12 + 1 from ⟨rfl, rfl⟩)
    rw [HE.out.1] at b1 b2
    rw [HE.out.2] at b3 b4
    have s1 := padS_size (1900 + m / 12) 4 (by omega) (by omega) (by omega)
    have s2 := padS_size (m % 12 + 1) 2 (by omega) (by omega) (by omega)
    have hK := Kept.refl w
    go_enter Tryd.func51, Tryd.ntmps51
    go_wp2_with (first
      | (go_at_call 80; refine (mvalid_any _ _).mono ?_; rintro e w' ⟨rfl, rfl⟩; rw [HM.out])
      | (go_at_call 81; refine (mpad_any _ _ (by omega) (by omega) (by omega) (by omega) _ (hP.kept (by assumption))).mono ?_; rintro e w' ⟨rfl, hk⟩; have hK := Kept.trans (by assumption) hk))
    go_ret
    exact ⟨ret_str (by rw [HR.out, HE.out.1, HE.out.2]), by assumption⟩

theorem numS_one {n : Int} (h0 : 0 ≤ n) (h1 : n < 10) : (numS n).size = 1 ∧ padS n 2 = ⟨#[48]⟩ ++ numS n := by
  have e : numS n = bs [UInt8.ofNat (48 + n.toNat)] := by rw [numS, Lib.itoa, if_neg (by omega), Lib.decDigits, dif_pos (by omega)]
  have hs : (numS n).size = 1 := by rw [e, bs_size]; rfl
  refine ⟨hs, ?_⟩
  rw [padS, hs, e]
  have e2 : Lib.itoa n = [UInt8.ofNat (48 + n.toNat)] := by rw [Lib.itoa, if_neg (by omega), Lib.decDigits, dif_pos (by omega)]
  rw [e2]
  exact (bs_append [48] [UInt8.ofNat (48 + n.toNat)]).symm
theorem numS_two {n : Int} (h0 : 10 ≤ n) (h1 : n < 100) : (numS n).size = 2 ∧ padS n 2 = numS n := by
  have e2 : Lib.itoa n = [UInt8.ofNat (48 + n.toNat / 10), UInt8.ofNat (48 + n.toNat % 10)] := by
    rw [Lib.itoa, if_neg (by omega), Lib.decDigits, dif_neg (by omega), Lib.decDigits, dif_pos (by omega)]; rfl
  have hs : (numS n).size = 2 := by rw [numS, bs_size, e2]; rfl
  exact ⟨hs, padS_no (by rw [hs]; decide)⟩
set_option maxRecDepth 100000 in
set_option maxHeartbeats 1000000 in
theorem rmformat_any (m : Int) (w : World) :
    Calls Tryd.prog 55 #[.int .i64 m] w fun e w' => e = .returned (.string (monthS m)) ∧ Kept w w' := by
  cases hm : monB m
  · have HR := Lib.hid (monthS_no hm)
    go_enter Tryd.func55, Tryd.ntmps55
    go_wp2_with (go_at_call 85; refine (rmvalid_any _ _).mono ?_; rintro e w' ⟨rfl, rfl⟩; rw [hm])
    go_ret
    exact ⟨ret_str HR.out.symm, Kept.refl _⟩
  · obtain ⟨m0, m1⟩ := monB_iff.1 hm
    have HM := Lib.hid hm
    have hb := mY_bd HM.out
    obtain ⟨b1, b2, b3, b4⟩ := hb
    have hR := monthS_yes hm
    rw [padS_y (by omega) (by omega)] at hR
    clear hm
    have hE : mY m = 1900 + m / 12 ∧ mM m = m % 12 + 1 := ⟨rfl, rfl⟩
    rw [hE.1] at b1 b2
    rw [hE.2] at b3 b4
    rw [hE.1, hE.2] at hR
    clear hE
    have y1 := numS_size (1900 + m / 12) (by omega) (by omega)
    have hK := Kept.refl w
    rcases Int.lt_or_le (m % 12 + 1) 10 with h10 | h10
    · have hz := numS_one (n := m % 12 + 1) (by omega) h10
      obtain ⟨z1, z2⟩ := hz
      rw [z2] at hR
      have HR := Lib.hid hR
      clear hR z2
      generalize hM1 : numS (m % 12 + 1) = M1 at *
      have HM1 := Lib.hid hM1
      clear hM1
      go_enter Tryd.func55, Tryd.ntmps55
      go_wp2_with (first
        | (go_at_call 85; refine (rmvalid_any _ _).mono ?_; rintro e w' ⟨rfl, rfl⟩; rw [HM.out])
        | (go_at_call 42; refine (rfmtInt_any _ (by omega) (by omega) _).mono ?_; rintro e w' ⟨rfl, hk⟩; have hK := Kept.trans (by assumption) hk; try rw [HM1.out]))
      go_ret
      exact ⟨ret_str (by rw [HR.out]), by assumption⟩
    · have hz := numS_two (n := m % 12 + 1) (by omega) (by omega)
      obtain ⟨z1, z2⟩ := hz
      rw [z2] at hR
      have HR := Lib.hid hR
      clear hR z2
      generalize hM1 : numS (m % 12 + 1) = M1 at *
      have HM1 := Lib.hid hM1
      clear hM1
      go_enter Tryd.func55, Tryd.ntmps55
      go_wp2_with (first
        | (go_at_call 85; refine (rmvalid_any _ _).mono ?_; rintro e w' ⟨rfl, rfl⟩; rw [HM.out])
        | (go_at_call 42; refine (rfmtInt_any _ (by omega) (by omega) _).mono ?_; rintro e w' ⟨rfl, hk⟩; have hK := Kept.trans (by assumption) hk; try rw [HM1.out]))
      go_ret
      exact ⟨ret_str (by rw [HR.out]), by assumption⟩

theorem mext_size (s : ByteArray) (a b : Nat) (h : b ≤ s.size) : (s.extract a b).size = b - a := by
  rw [ByteArray.size_extract]; omega
theorem digV_bd {s : ByteArray} (h : s.size ≤ 4) : 0 ≤ digV (L s) ∧ digV (L s) < 10000 := by
  unfold digV
  split
  · rename_i hd
    have := val_lt (l := L s) hd
    have h2 : 10 ^ (L s).length ≤ 10 ^ 4 := Nat.pow_le_pow_right (by decide) h
    omega
  · omega
theorem mres_no {y m : Int} (h : ¬ (1 ≤ m ∧ m ≤ 12 ∧ 1900 ≤ y ∧ y ≤ 2199)) : mres y m = (0, 3) := by rw [mres, if_neg h]
theorem mres_yes {y m : Int} (h : 1 ≤ m ∧ m ≤ 12 ∧ 1900 ≤ y ∧ y ≤ 2199) : mres y m = ((y - 1900) * 12 + m - 1, 0) := by rw [mres, if_pos h]

set_option maxRecDepth 100000 in
set_option maxHeartbeats 4000000 in
theorem mparse_any (s : ByteArray) (w : World) :
    Calls Tryd.prog 59 #[.string s] w fun e w' => e = .returned (.tuple #[.int .i64 (mparS s).1, .int .i64 (mparS s).2]) ∧ Kept w w' := by
  rcases mform_cases s with ⟨h, h7⟩ | ⟨h7, ⟨h, h4⟩ | ⟨h, h4⟩⟩
  iterate 2
    · have HR := Lib.hid (mparS_no h)
      clear h
      go_enter Tryd.func59, Tryd.ntmps59
      go_wp2_with fail
      go_ret2
      exact ⟨from_ret HR.out, Kept.refl _⟩
  have z1 := mext_size s 0 4 (by omega)
  have z2 := mext_size s 5 7 (by omega)
  have hK0 := Kept.refl w
  have y1 := digV_bd (s := s.extract 0 4) (by omega)
  have y2 := digV_bd (s := s.extract 5 7) (by omega)
  have R1 : ∀ w, Calls Tryd.prog 88 #[.string (s.extract 0 4)] w fun e w' => e = .returned (.tuple #[.int .i64 (digV (L (s.extract 0 4))), .bool (digB (L (s.extract 0 4)))]) ∧ Kept w w' := fun w => mdigits_any _ (by omega) w
  have R2 : ∀ w, Calls Tryd.prog 88 #[.string (s.extract 5 7)] w fun e w' => e = .returned (.tuple #[.int .i64 (digV (L (s.extract 5 7))), .bool (digB (L (s.extract 5 7)))]) ∧ Kept w w' := fun w => mdigits_any _ (by omega) w
  have HP := Lib.hid (fun h => mparS_yes (s := s) h)
  have HN := Lib.hid (fun h => mparS_no (s := s) h)
  generalize digV (L (s.extract 0 4)) = y at *
  generalize digV (L (s.extract 5 7)) = m at *
  generalize digB (L (s.extract 0 4)) = d1 at *
  generalize digB (L (s.extract 5 7)) = d2 at *
  obtain ⟨y0, y9⟩ := y1
  obtain ⟨m0, m9⟩ := y2
  have HH := Lib.hid h
  clear h
  cases d1
  · have HR := Lib.hid (HN.out HH.out)
    go_enter Tryd.func59, Tryd.ntmps59
    go_wp2_with (first
      | (go_at_call_of 88 (Value.string (s.extract 0 4)); refine (R1 _).mono ?_; rintro e w' ⟨rfl, hk⟩; have hK := Kept.trans (by assumption) hk)
      | (go_at_call_of 88 (Value.string (s.extract 5 7)); refine (R2 _).mono ?_; rintro e w' ⟨rfl, hk⟩; have hK := Kept.trans (by assumption) hk))
    go_ret2
    exact ⟨from_ret HR.out, by assumption⟩
  · cases d2
    · have HR := Lib.hid (HN.out HH.out)
      go_enter Tryd.func59, Tryd.ntmps59
      go_wp2_with (first
        | (go_at_call_of 88 (Value.string (s.extract 0 4)); refine (R1 _).mono ?_; rintro e w' ⟨rfl, hk⟩; have hK := Kept.trans (by assumption) hk)
        | (go_at_call_of 88 (Value.string (s.extract 5 7)); refine (R2 _).mono ?_; rintro e w' ⟨rfl, hk⟩; have hK := Kept.trans (by assumption) hk))
      go_ret2
      exact ⟨from_ret HR.out, by assumption⟩
    · have hP := HP.out HH.out
      by_cases hin : 1 ≤ m ∧ m ≤ 12 ∧ 1900 ≤ y ∧ y ≤ 2199
      · rw [mres_yes hin] at hP
        have HR := Lib.hid hP
        obtain ⟨i1, i2, i3, i4⟩ := hin
        have HM := Lib.hid (show monB ((y - 1900) * 12 + m - 1) = true from monB_iff.2 ⟨by omega, by omega⟩)
        clear hP
        go_enter Tryd.func59, Tryd.ntmps59
        go_wp2_with (first
          | (go_at_call_of 88 (Value.string (s.extract 0 4)); refine (R1 _).mono ?_; rintro e w' ⟨rfl, hk⟩; have hK := Kept.trans (by assumption) hk)
          | (go_at_call_of 88 (Value.string (s.extract 5 7)); refine (R2 _).mono ?_; rintro e w' ⟨rfl, hk⟩; have hK := Kept.trans (by assumption) hk)
          | (go_at_call 80; refine (mvalid_any _ _).mono ?_; rintro e w' ⟨rfl, rfl⟩; rw [HM.out]))
        go_ret2
        exact ⟨from_ret HR.out, by assumption⟩
      · rw [mres_no hin] at hP
        have HR := Lib.hid hP
        have hc : m < 1 ∨ (1 ≤ m ∧ 12 < m) ∨ (1 ≤ m ∧ m ≤ 12 ∧ (y < 1900 ∨ 2199 < y)) := by omega
        clear hP hin
        rcases hc with c1 | ⟨c1, c2⟩ | ⟨c1, c2, c3⟩
        iterate 2
          · go_enter Tryd.func59, Tryd.ntmps59
            go_wp2_with (first
              | (go_at_call_of 88 (Value.string (s.extract 0 4)); refine (R1 _).mono ?_; rintro e w' ⟨rfl, hk⟩; have hK := Kept.trans (by assumption) hk)
              | (go_at_call_of 88 (Value.string (s.extract 5 7)); refine (R2 _).mono ?_; rintro e w' ⟨rfl, hk⟩; have hK := Kept.trans (by assumption) hk))
            go_ret2
            exact ⟨from_ret HR.out, by assumption⟩
        · have HM := Lib.hid (show monB ((y - 1900) * 12 + m - 1) = false from monB_not.2 (by omega))
          clear c3
          go_enter Tryd.func59, Tryd.ntmps59
          go_wp2_with (first
            | (go_at_call_of 88 (Value.string (s.extract 0 4)); refine (R1 _).mono ?_; rintro e w' ⟨rfl, hk⟩; have hK := Kept.trans (by assumption) hk)
            | (go_at_call_of 88 (Value.string (s.extract 5 7)); refine (R2 _).mono ?_; rintro e w' ⟨rfl, hk⟩; have hK := Kept.trans (by assumption) hk)
            | (go_at_call 80; refine (mvalid_any _ _).mono ?_; rintro e w' ⟨rfl, rfl⟩; rw [HM.out]))
          go_ret2
          exact ⟨from_ret HR.out, by assumption⟩

set_option maxRecDepth 100000 in
set_option maxHeartbeats 4000000 in
theorem rmparse_any (s : ByteArray) (w : World) :
    Calls Tryd.prog 63 #[.string s] w fun e w' => e = .returned (.tuple #[.int .i64 (mparS s).1, .int .i64 (mparS s).2]) ∧ Kept w w' := by
  rcases mform_cases s with ⟨h, h7⟩ | ⟨h7, ⟨h, h4⟩ | ⟨h, h4⟩⟩
  iterate 2
    · have HR := Lib.hid (mparS_no h)
      clear h
      go_enter Tryd.func63, Tryd.ntmps63
      go_wp2_with fail
      go_ret2
      exact ⟨from_ret HR.out, Kept.refl _⟩
  have z1 := mext_size s 0 4 (by omega)
  have z2 := mext_size s 5 7 (by omega)
  have y1 := digV_bd (s := s.extract 0 4) (by omega)
  have y2 := digV_bd (s := s.extract 5 7) (by omega)
  have HP := Lib.hid (fun h => mparS_yes (s := s) h)
  have HN := Lib.hid (fun h => mparS_no (s := s) h)
  have R1 : ∀ w, Calls Tryd.prog 91 #[.string (s.extract 0 4)] w fun e w' => e = .returned (.int .i64 (digR (L (s.extract 0 4)))) ∧ w = w' := fun w => rdigits_any _ (by omega) w
  have R2 : ∀ w, Calls Tryd.prog 91 #[.string (s.extract 5 7)] w fun e w' => e = .returned (.int .i64 (digR (L (s.extract 5 7)))) ∧ w = w' := fun w => rdigits_any _ (by omega) w
  cases h1 : digB (L (s.extract 0 4))
  · have e1 := digR_no h1
    have HR := Lib.hid (HN.out (by rw [h, h1]; rfl))
    rw [e1] at R1
    clear h e1
    go_enter Tryd.func63, Tryd.ntmps63
    go_wp2_with (first
      | (go_at_call_of 91 (Value.string (s.extract 0 4)); refine (R1 _).mono ?_; rintro e w' ⟨rfl, rfl⟩))
    go_ret2
    exact ⟨from_ret HR.out, Kept.refl _⟩
  · cases h2 : digB (L (s.extract 5 7))
    · have e1 := digR_V h1
      have e2 := digR_no h2
      have HR := Lib.hid (HN.out (by rw [h, h1, h2]; rfl))
      rw [e1] at R1
      rw [e2] at R2
      clear h e1 e2 HP
      generalize digV (L (s.extract 0 4)) = y at *
      obtain ⟨y0, y9⟩ := y1
      go_enter Tryd.func63, Tryd.ntmps63
      go_wp2_with (first
        | (go_at_call_of 91 (Value.string (s.extract 0 4)); refine (R1 _).mono ?_; rintro e w' ⟨rfl, rfl⟩)
        | (go_at_call_of 91 (Value.string (s.extract 5 7)); refine (R2 _).mono ?_; rintro e w' ⟨rfl, rfl⟩))
      go_ret2
      exact ⟨from_ret HR.out, Kept.refl _⟩
    · have e1 := digR_V h1
      have e2 := digR_V h2
      have hP := HP.out (by rw [h, h1, h2]; rfl)
      rw [e1] at R1
      rw [e2] at R2
      clear h e1 e2 HP HN h1 h2
      generalize digV (L (s.extract 0 4)) = y at *
      generalize digV (L (s.extract 5 7)) = m at *
      obtain ⟨y0, y9⟩ := y1
      obtain ⟨m0, m9⟩ := y2
      have hc : (mparS s = (12 * (y - 1900) + m - 1, 0) ∧ 1900 ≤ y ∧ y ≤ 2199 ∧ 1 ≤ m ∧ m ≤ 12) ∨ (mparS s = (0, 3) ∧ y < 1900) ∨ (mparS s = (0, 3) ∧ 1900 ≤ y ∧ 2199 < y) ∨ (mparS s = (0, 3) ∧ 1900 ≤ y ∧ y ≤ 2199 ∧ m < 1) ∨ (mparS s = (0, 3) ∧ 1900 ≤ y ∧ y ≤ 2199 ∧ 1 ≤ m ∧ 12 < m) := by
        by_cases hin : 1 ≤ m ∧ m ≤ 12 ∧ 1900 ≤ y ∧ y ≤ 2199
        · left
          rw [hP, mres_yes hin]
          exact ⟨by congr 1; omega, by omega, by omega, by omega, by omega⟩
        · right
          rw [hP, mres_no hin]
          simp only [true_and]; omega
      clear hP
      rcases hc with ⟨h0, c1, c2, c3, c4⟩ | ⟨h0, c1⟩ | ⟨h0, c1, c2⟩ | ⟨h0, c1, c2, c3⟩ | ⟨h0, c1, c2, c3, c4⟩
      all_goals
        have HR := Lib.hid h0
        clear h0
        go_enter Tryd.func63, Tryd.ntmps63
        go_wp2_with (first
          | (go_at_call_of 91 (Value.string (s.extract 0 4)); refine (R1 _).mono ?_; rintro e w' ⟨rfl, rfl⟩)
          | (go_at_call_of 91 (Value.string (s.extract 5 7)); refine (R2 _).mono ?_; rintro e w' ⟨rfl, rfl⟩))
        refine wp_region_kept (by kernel_rfl) (by kernel_rfl) ?_
        repeat (go_big_quiet_step (first
          | (go_at_call_of 91 (Value.string (s.extract 0 4)); exact KW.pure (R1 _))
          | (go_at_call_of 91 (Value.string (s.extract 5 7)); exact KW.pure (R2 _))))
        refine wpQuiet_nil ?_
        rintro _ ⟨⟨wx, hx⟩, rfl⟩
        go_wp2_with fail
        go_ret2
        exact ⟨from_ret HR.out, hx⟩
end Go.Proofs.YtjdljholajacdaaDoor
