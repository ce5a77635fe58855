/- What Parse of package date, and of the reference, computes. -/
import Derived.Test.YtemejaomfbhldaaGreatDoorDateE
import Derived.Test.YtemejaomfbhldaaGreatDoorDateD
namespace Go.Proofs.YtemejaomfbhldaaGreatDoor
open Go.RowKit

/-- is a string of the form YYYY-MM-DD -/
def dparB (s : ByteArray) : Bool := decide (s.size = 10) && ((L s)[4]? == some 45 && ((L s)[7]? == some 45 && (digB (L (s.extract 0 4)) && (digB (L (s.extract 5 7)) && digB (L (s.extract 8 10))))))
def dparS (s : ByteArray) : Int × Int := if dparB s then fromS (digV (L (s.extract 0 4))) (digV (L (s.extract 5 7))) (digV (L (s.extract 8 10))) else (0, 2)
theorem dparS_yes {s : ByteArray} (h : dparB s = true) : dparS s = fromS (digV (L (s.extract 0 4))) (digV (L (s.extract 5 7))) (digV (L (s.extract 8 10))) := by rw [dparS, if_pos h]
theorem dparS_no {s : ByteArray} (h : dparB s = false) : dparS s = (0, 2) := by rw [dparS, h]; rfl
theorem ext_size (s : ByteArray) (a b : Nat) (h : b ≤ s.size) : (s.extract a b).size = b - a := by
  rw [ByteArray.size_extract]; omega
/-- the ways in which a string is none -/
theorem dpar_cases (s : ByteArray) : (dparB s = false ∧ s.size ≠ 10) ∨ ∃ h : s.size = 10,
    (dparB s = false ∧ s[4].toNat ≠ 45) ∨ (dparB s = false ∧ s[4].toNat = 45 ∧ s[7].toNat ≠ 45) ∨
    (dparB s = (digB (L (s.extract 0 4)) && (digB (L (s.extract 5 7)) && digB (L (s.extract 8 10)))) ∧ s[4].toNat = 45 ∧ s[7].toNat = 45) := by
  by_cases h : s.size = 10
  · refine .inr ⟨h, ?_⟩
    have g4 := L_get s 4 (by omega)
    have g7 := L_get s 7 (by omega)
    have key : ∀ c : UInt8, (some c == some (45 : UInt8)) = decide (c.toNat = 45) := by
      intro c
      by_cases hc : c = 45
      · subst hc; rfl
      · have : c.toNat ≠ 45 := fun e => hc (UInt8.toNat_inj.1 e)
        simp [hc, this]
    unfold dparB
    rw [g4, g7, key, key]
    by_cases e4 : s[4].toNat = 45
    · by_cases e7 : s[7].toNat = 45
      · exact .inr (.inr ⟨by simp [h, e4, e7], e4, e7⟩)
      · exact .inr (.inl ⟨by simp [e7], e4, e7⟩)
    · exact .inl ⟨by simp [e4], e4⟩
  · exact .inl ⟨by simp [dparB, h], h⟩

theorem digR_V {l : List UInt8} (h : digB l = true) : digR l = digV l := by rw [digR_yes h, digV_yes h]
theorem digR_pos {l : List UInt8} (h : digB l = true) : 0 ≤ digR l := by rw [digR_yes h]; omega
set_option maxRecDepth 100000 in
set_option maxHeartbeats 1000000 in
theorem parse_any (s : ByteArray) (w : World) (hM : Mon w) :
    Calls Tryz.prog 25 #[.string s] w fun e w' => e = .returned (.tuple #[.int .i64 (dparS s).1, .int .i64 (dparS s).2]) ∧ Kept w w' := by
  rcases dpar_cases s with ⟨h, h10⟩ | ⟨h10, ⟨h, h4⟩ | ⟨h, h4, h7⟩ | ⟨h, h4, h7⟩⟩
  iterate 3
    · have HR := Lib.hid (dparS_no h)
      clear h
      go_enter Tryz.func25, Tryz.ntmps25
      go_wp2_with fail
      go_ret2
      exact ⟨from_ret HR.out, Kept.refl _⟩
  have z1 := ext_size s 0 4 (by omega)
  have z2 := ext_size s 5 7 (by omega)
  have z3 := ext_size s 8 10 (by omega)
  have hK0 := Kept.refl w
  cases h1 : digB (L (s.extract 0 4)) <;> cases h2 : digB (L (s.extract 5 7)) <;> cases h3 : digB (L (s.extract 8 10))
  case true.true.true =>
    have HR := Lib.hid (dparS_yes (by rw [h, h1, h2, h3]; rfl))
    clear h
    go_enter Tryz.func25, Tryz.ntmps25
    go_wp2_with (first
      | (go_at_call_of 46 (Value.string (s.extract 0 4)); refine (digits_any (s.extract 0 4) (by omega) _).mono ?_; rintro e w' ⟨rfl, hk⟩; have hK := Kept.trans (by assumption) hk)
      | (go_at_call_of 46 (Value.string (s.extract 5 7)); refine (digits_any (s.extract 5 7) (by omega) _).mono ?_; rintro e w' ⟨rfl, hk⟩; have hK := Kept.trans (by assumption) hk)
      | (go_at_call_of 46 (Value.string (s.extract 8 10)); refine (digits_any (s.extract 8 10) (by omega) _).mono ?_; rintro e w' ⟨rfl, hk⟩; have hK := Kept.trans (by assumption) hk)
      | (go_at_call 47; refine (fromYMD_any _ _ _ _ (hM.kept (by assumption))).mono ?_; rintro e w' ⟨rfl, rfl⟩))
    go_ret2
    rw [HR.out]
    exact ⟨rfl, by assumption⟩
  all_goals
    have HR := Lib.hid (dparS_no (by rw [h, h1, h2, h3]; rfl))
    clear h
    go_enter Tryz.func25, Tryz.ntmps25
    go_wp2_with (first
      | (go_at_call_of 46 (Value.string (s.extract 0 4)); refine (digits_any (s.extract 0 4) (by omega) _).mono ?_; rintro e w' ⟨rfl, hk⟩; have hK := Kept.trans (by assumption) hk)
      | (go_at_call_of 46 (Value.string (s.extract 5 7)); refine (digits_any (s.extract 5 7) (by omega) _).mono ?_; rintro e w' ⟨rfl, hk⟩; have hK := Kept.trans (by assumption) hk)
      | (go_at_call_of 46 (Value.string (s.extract 8 10)); refine (digits_any (s.extract 8 10) (by omega) _).mono ?_; rintro e w' ⟨rfl, hk⟩; have hK := Kept.trans (by assumption) hk))
    go_ret2
    exact ⟨from_ret HR.out, by assumption⟩

set_option maxRecDepth 100000 in
set_option maxHeartbeats 4000000 in
theorem rparse_any (s : ByteArray) (w : World) :
    Calls Tryz.prog 29 #[.string s] w fun e w' => e = .returned (.tuple #[.int .i64 (dparS s).1, .int .i64 (dparS s).2]) ∧ Kept w w' := by
  rcases dpar_cases s with ⟨h, h10⟩ | ⟨h10, ⟨h, h4⟩ | ⟨h, h4, h7⟩ | ⟨h, h4, h7⟩⟩
  iterate 3
    · have HR := Lib.hid (dparS_no h)
      clear h
      go_enter Tryz.func29, Tryz.ntmps29
      go_wp2_with fail
      go_ret2
      exact ⟨from_ret HR.out, Kept.refl _⟩
  have z1 := ext_size s 0 4 (by omega)
  have z2 := ext_size s 5 7 (by omega)
  have z3 := ext_size s 8 10 (by omega)
  cases h1 : digB (L (s.extract 0 4)) <;> cases h2 : digB (L (s.extract 5 7)) <;> cases h3 : digB (L (s.extract 8 10))
  case true.true.true =>
    have HR := Lib.hid (dparS_yes (by rw [h, h1, h2, h3]; rfl))
    have e1 := digR_pos h1
    have e2 := digR_pos h2
    have e3 := digR_pos h3
    have HE := Lib.hid (show digR (L (s.extract 0 4)) = _ ∧ digR (L (s.extract 5 7)) = _ ∧ digR (L (s.extract 8 10)) = _ from ⟨digR_V h1, digR_V h2, digR_V h3⟩)
    have R1 : ∀ w, Calls Tryz.prog 51 #[.string (s.extract 0 4)] w fun e w' => e = .returned (.int .i64 (digR (L (s.extract 0 4)))) ∧ w = w' := fun w => rdigits_any _ (by omega) w
    have R2 : ∀ w, Calls Tryz.prog 51 #[.string (s.extract 5 7)] w fun e w' => e = .returned (.int .i64 (digR (L (s.extract 5 7)))) ∧ w = w' := fun w => rdigits_any _ (by omega) w
    have R3 : ∀ w, Calls Tryz.prog 51 #[.string (s.extract 8 10)] w fun e w' => e = .returned (.int .i64 (digR (L (s.extract 8 10)))) ∧ w = w' := fun w => rdigits_any _ (by omega) w
    generalize ha : digR (L (s.extract 0 4)) = a at *
    generalize hb : digR (L (s.extract 5 7)) = b at *
    generalize hc : digR (L (s.extract 8 10)) = c at *
    clear h
    go_enter Tryz.func29, Tryz.ntmps29
    go_wp2_with (first
      | (go_at_call_of 51 (Value.string (s.extract 0 4)); refine (R1 _).mono ?_; rintro e w' ⟨rfl, rfl⟩)
      | (go_at_call_of 51 (Value.string (s.extract 5 7)); refine (R2 _).mono ?_; rintro e w' ⟨rfl, rfl⟩)
      | (go_at_call_of 51 (Value.string (s.extract 8 10)); refine (R3 _).mono ?_; rintro e w' ⟨rfl, rfl⟩))
    refine wp_region_kept (by kernel_rfl) (by kernel_rfl) ?_
    repeat (go_big_quiet_step (first
      | (go_at_call_of 51 (Value.string (s.extract 0 4)); exact KW.pure (R1 _))
      | (go_at_call_of 51 (Value.string (s.extract 5 7)); exact KW.pure (R2 _))
      | (go_at_call_of 51 (Value.string (s.extract 8 10)); exact KW.pure (R3 _))
      | (go_at_call 52; exact KW.pure (rfromYMD_any _ _ _ _))))
    refine wpQuiet_nil ?_
    rintro _ ⟨⟨wx, hx⟩, rfl⟩
    go_wp2_with fail
    go_ret2
    rw [HR.out, ← HE.out.1, ← HE.out.2.1, ← HE.out.2.2]
    exact ⟨rfl, hx⟩
  all_goals
    have HR := Lib.hid (dparS_no (by rw [h, h1, h2, h3]; rfl))
    clear h
    first | have e1 := digR_pos h1 | have e1 := digR_no h1
    first | have e2 := digR_pos h2 | have e2 := digR_no h2
    first | have e3 := digR_pos h3 | have e3 := digR_no h3
    have R1 : ∀ w, Calls Tryz.prog 51 #[.string (s.extract 0 4)] w fun e w' => e = .returned (.int .i64 (digR (L (s.extract 0 4)))) ∧ w = w' := fun w => rdigits_any _ (by omega) w
    have R2 : ∀ w, Calls Tryz.prog 51 #[.string (s.extract 5 7)] w fun e w' => e = .returned (.int .i64 (digR (L (s.extract 5 7)))) ∧ w = w' := fun w => rdigits_any _ (by omega) w
    have R3 : ∀ w, Calls Tryz.prog 51 #[.string (s.extract 8 10)] w fun e w' => e = .returned (.int .i64 (digR (L (s.extract 8 10)))) ∧ w = w' := fun w => rdigits_any _ (by omega) w
    generalize ha : digR (L (s.extract 0 4)) = a at *
    generalize hb : digR (L (s.extract 5 7)) = b at *
    generalize hc : digR (L (s.extract 8 10)) = c at *
    go_enter Tryz.func29, Tryz.ntmps29
    go_wp2_with (first
      | (go_at_call_of 51 (Value.string (s.extract 0 4)); refine (R1 _).mono ?_; rintro e w' ⟨rfl, rfl⟩)
      | (go_at_call_of 51 (Value.string (s.extract 5 7)); refine (R2 _).mono ?_; rintro e w' ⟨rfl, rfl⟩)
      | (go_at_call_of 51 (Value.string (s.extract 8 10)); refine (R3 _).mono ?_; rintro e w' ⟨rfl, rfl⟩))
    go_ret2
    exact ⟨from_ret HR.out, Kept.refl _⟩
end Go.Proofs.YtemejaomfbhldaaGreatDoor
