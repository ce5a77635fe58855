/- What Parse of package date, and of the reference, computes. -/
import Derived.Test.YtdnjfpmngnkcfaaGreatDoorDateE
import Derived.Test.YtdnjfpmngnkcfaaGreatDoorDateD
namespace Go.Proofs.YtdnjfpmngnkcfaaGreatDoor
open Go.RowKit

/-- is a string of the form YYYY-MM-DD -/
def dparB (s : ByteArray) : Bool := decide (s.size = 10) && ((L s)[4]? == some 45 && ((L s)[7]? == some 45 && (digB (L (s.extract 0 4)) && (digB (L (s.extract 5 7)) && digB (L (s.extract 8 10))))))
def dparS (s : ByteArray) : Int × Int := if dparB s then fromS (digV (L (s.extract 0 4))) (digV (L (s.extract 5 7))) (digV (L (s.extract 8 10))) else (0, 2)
theorem dparS_yes {s : ByteArray} (h : dparB s = true) : dparS s = fromS (digV (L (s.extract 0 4))) (digV (L (s.extract 5 7))) (digV (L (s.extract 8 10))) := by rw [dparS, if_pos h]
theorem dparS_no {s : ByteArray} (h : dparB s = false) : dparS s = (0, 2) := by rw [dparS, h]; rfl
theorem ext_size (s : ByteArray) (a b : Nat) (h : b ≤ s.size) : (s.extract a b).size = b - a := by
  rw [ByteArray.size_extract]; omega
/-- the ways in which a string is none -/
theorem dpar_cases (s : ByteArray) : (dparB s = false ∧ s.size ≠ 10) ∨ ∃ h : s.size = 10,
    (dparB s = false ∧ s[4].toNat ≠ 45) ∨ (dparB s = false ∧ s[4].toNat = 45 ∧ s[7].toNat ≠ 45) ∨
    (dparB s = (digB (L (s.extract 0 4)) && (digB (L (s.extract 5 7)) && digB (L (s.extract 8 10)))) ∧ s[4].toNat = 45 ∧ s[7].toNat = 45) := by
  by_cases h : s.size = 10
  · refine .inr ⟨h, ?_⟩
    have g4 := L_get s 4 (by omega)
    have g7 := L_get s 7 (by omega)
    have key : ∀ c : UInt8, (some c == some (45 : UInt8)) = decide (c.toNat = 45) := by
      intro c
      by_cases hc : c = 45
      · subst hc; rfl
      · have : c.toNat ≠ 45 := fun e => hc (UInt8.toNat_inj.1 e)
        simp [hc, this]
    unfold dparB
    rw [g4, g7, key, key]
    by_cases e4 : s[4].toNat = 45
    · by_cases e7 : s[7].toNat = 45
      · exact .inr (.inr ⟨by simp [h, e4, e7], e4, e7⟩)
      · exact .inr (.inl ⟨by simp [e7], e4, e7⟩)
    · exact .inl ⟨by simp [e4], e4⟩
  · exact .inl ⟨by simp [dparB, h], h⟩

theorem digR_V {l : List UInt8} (h : digB l = true) : digR l = digV l := by rw [digR_yes h, digV_yes h]
theorem digR_pos {l : List UInt8} (h : digB l = true) : 0 ≤ digR l := by rw [digR_yes h]; omega
set_option maxRecDepth 100000 in
set_option maxHeartbeats 1000000 in
theorem parse_any (s : ByteArray) (w : World) (hM : Mon w) :
    Calls Tryz.prog 75 #[.string s] w fun e w' => e = .returned (.tuple #[.int .i64 (dparS s).1, .int .i64 (dparS s).2]) ∧ Kept w w' := by
  rcases dpar_cases s with ⟨h, h10⟩ | ⟨h10, ⟨h, h4⟩ | ⟨h, h4, h7⟩ | ⟨h, h4, h7⟩⟩
  iterate 3
    · have HR := Lib.hid (dparS_no h)
      clear h
      go_enter Tryz.func75, Tryz.ntmps75
      go_wp2_with fail
      go_ret2
      exact ⟨from_ret HR.out, Kept.refl _⟩
  have z1 := ext_size s 0 4 (by omega)
  have z2 := ext_size s 5 7 (by omega)
  have z3 := ext_size s 8 10 (by omega)
  have hK0 := Kept.refl w
  cases h1 : digB (L (s.extract 0 4)) <;> cases h2 : digB (L (s.extract 5 7)) <;> cases h3 : digB (L (s.extract 8 10))
  case true.true.true =>
    have HR := Lib.hid (dparS_yes (by rw [h, h1, h2, h3]; rfl))
    clear h
    go_enter Tryz.func75, Tryz.ntmps75
    go_wp2_with (first
      | (go_at_call_of 95 (Value.string (s.extract 0 4)); refine (digits_any (s.extract 0 4) (by omega) _).mono ?_; rintro e w' ⟨rfl, hk⟩; have hK := Kept.trans (by assumption) hk)
      | (go_at_call_of 95 (Value.string (s.extract 5 7)); refine (digits_any (s.extract 5 7) (by omega) _).mono ?_; rintro e w' ⟨rfl, hk⟩; have hK := Kept.trans (by assumption) hk)
      | (go_at_call_of 95 (Value.string (s.extract 8 10)); refine (digits_any (s.extract 8 10) (by omega) _).mono ?_; rintro e w' ⟨rfl, hk⟩; have hK := Kept.trans (by assumption) hk)
      | (go_at_call 96; refine (fromYMD_any _ _ _ _ (hM.kept (by assumption))).mono ?_; rintro e w' ⟨rfl, rfl⟩))
    go_ret2
    rw [HR.out]
    exact ⟨rfl, by assumption⟩
  all_goals
    have HR := Lib.hid (dparS_no (by rw [h, h1, h2, h3]; rfl))
    clear h
    go_enter Tryz.func75, Tryz.ntmps75
    go_wp2_with (first
      | (go_at_call_of 95 (Value.string (s.extract 0 4)); refine (digits_any (s.extract 0 4) (by omega) _).mono ?_; rintro e w' ⟨rfl, hk⟩; have hK := Kept.trans (by assumption) hk)
      | (go_at_call_of 95 (Value.string (s.extract 5 7)); refine (digits_any (s.extract 5 7) (by omega) _).mono ?_; rintro e w' ⟨rfl, hk⟩; have hK := Kept.trans (by assumption) hk)
      | (go_at_call_of 95 (Value.string (s.extract 8 10)); refine (digits_any (s.extract 8 10) (by omega) _).mono ?_; rintro e w' ⟨rfl, hk⟩; have hK := Kept.trans (by assumption) hk))
    go_ret2
    exact ⟨from_ret HR.out, by assumption⟩

end Go.Proofs.YtdnjfpmngnkcfaaGreatDoor
