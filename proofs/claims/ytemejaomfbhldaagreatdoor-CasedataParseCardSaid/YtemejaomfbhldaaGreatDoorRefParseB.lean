/- What the reference's ParseInt computes. -/
import Derived.Test.YtemejaomfbhldaaGreatDoorRefParse
namespace Go.Proofs.YtemejaomfbhldaaGreatDoor
open Go.RowKit

theorem isZ_iff (b : ByteArray) : (b.toList == [48]) = decide (L b = [48]) := by
  rw [toList_L]
  by_cases h : L b = [48]
  · rw [h]; rfl
  · simp [h]

set_option maxRecDepth 100000 in
set_option maxHeartbeats 4000000 in
theorem rparseInt_any (s : ByteArray) (hs : s.size ≤ 1000000) (w : World) :
    Calls Tryz.prog 96 #[.string s] w fun e w' => e = .returned (.tuple #[.int .i64 (refI (L s)).1, .int .i64 (refI (L s)).2]) ∧ w = w' := by
  have hbs : (bs (bodyL (L s))).size ≤ 1000000 := by
    rw [bs_size, bodyL]; split
    · rw [List.length_tail, L_length]; omega
    · rw [L_length]; exact hs
  have HP := Lib.hid (show refI (L s) = (if adB (L (bs (bodyL (L s)))) = false ∨ badL (L (bs (bodyL (L s)))) (bs (bodyL (L s))).size = true ∨ (negB (L s) = true ∧ L (bs (bodyL (L s))) = [48]) then (0, 2) else numR (L (bs (bodyL (L s)))) (negB (L s))) by
    rw [refI, bs_size]; rfl)
  have HC := Lib.hid (fun w => rsign_any s w)
  generalize bs (bodyL (L s)) = b at *
  generalize negB (L s) = neg at *
  have HA := Lib.hid (fun w => rallDigits_any b hbs w)
  cases ha : adB (L b)
  · have HR := Lib.hid (show refI (L s) = (0, 2) by rw [HP.out, if_pos (.inl ha)])
    go_enter Tryz.func96, Tryz.ntmps96
    go_wp2_with (first
      | (go_at_call 89; refine (HC.out _).mono ?_; rintro e w' ⟨rfl, rfl⟩)
      | (go_at_call 108; refine (HA.out _).mono ?_; rintro e w' ⟨rfl, rfl⟩; rw [ha]))
    go_ret2
    exact ⟨ret_pair HR.out, rfl⟩
  · have had := ha
    unfold adB at had
    rw [Bool.and_eq_true, decide_eq_true_eq, L_length] at had
    obtain ⟨hpos, hdig⟩ := had
    have HN := Lib.hid (fun neg w => rnumber_any b neg hbs hdig w)
    clear hdig
    have hkb : (b.size : Int) ≤ b.size := Int.le_refl _
    rcases bad_cases b b.size hkb with ⟨hb, h1⟩ | ⟨hb, h1⟩ | ⟨h1, ⟨hb, h2⟩ | ⟨hb, h2⟩⟩
    · omega
    · cases neg
      · have HR := Lib.hid (show refI (L s) = numR (L b) false by rw [HP.out, if_neg (by simp [ha, hb])])
        go_enter Tryz.func96, Tryz.ntmps96
        go_wp2_with (first
          | (go_at_call 89; refine (HC.out _).mono ?_; rintro e w' ⟨rfl, rfl⟩)
          | (go_at_call 108; refine (HA.out _).mono ?_; rintro e w' ⟨rfl, rfl⟩; rw [ha])
          | (go_at_call 109; refine (HN.out _ _).mono ?_; rintro e w' ⟨rfl, rfl⟩))
        go_ret2
        rw [HR.out]
        exact ⟨rfl, rfl⟩
      · cases hz : decide (L b = [48])
        · have HR := Lib.hid (show refI (L s) = numR (L b) true by rw [HP.out, if_neg (by simp [ha, hb]; simpa using hz)])
          rw [← isZ_iff] at hz
          go_enter Tryz.func96, Tryz.ntmps96
          go_wp2_with (first
            | (go_at_call 89; refine (HC.out _).mono ?_; rintro e w' ⟨rfl, rfl⟩)
            | (go_at_call 108; refine (HA.out _).mono ?_; rintro e w' ⟨rfl, rfl⟩; rw [ha])
            | (go_at_call 109; refine (HN.out _ _).mono ?_; rintro e w' ⟨rfl, rfl⟩))
          go_ret2
          rw [HR.out]
          exact ⟨rfl, rfl⟩
        · have HR := Lib.hid (show refI (L s) = (0, 2) by rw [HP.out, if_pos (.inr (.inr ⟨rfl, by simpa using hz⟩))])
          rw [← isZ_iff] at hz
          go_enter Tryz.func96, Tryz.ntmps96
          go_wp2_with (first
            | (go_at_call 89; refine (HC.out _).mono ?_; rintro e w' ⟨rfl, rfl⟩)
            | (go_at_call 108; refine (HA.out _).mono ?_; rintro e w' ⟨rfl, rfl⟩; rw [ha]))
          go_ret2
          exact ⟨ret_pair HR.out, rfl⟩
    · have HR := Lib.hid (show refI (L s) = (0, 2) by rw [HP.out, if_pos (.inr (.inl hb))])
      go_enter Tryz.func96, Tryz.ntmps96
      go_wp2_with (first
        | (go_at_call 89; refine (HC.out _).mono ?_; rintro e w' ⟨rfl, rfl⟩)
        | (go_at_call 108; refine (HA.out _).mono ?_; rintro e w' ⟨rfl, rfl⟩; rw [ha]))
      go_ret2
      exact ⟨ret_pair HR.out, rfl⟩
    · have h3 : (((b[0]'hpos).toNat : Int) == 48) = false := by rw [beq_eq_false_iff_ne]; omega
      have hz : decide (L b = [48]) = false := by
        rw [decide_eq_false_iff_not]
        intro e
        have := congrArg List.length e
        rw [L_length] at this
        simp at this
        omega
      cases neg
      all_goals
        have HR := Lib.hid (HP.out.trans (if_neg (by simp [ha, hb]; try simpa using hz)))
        rw [← isZ_iff] at hz
        go_enter Tryz.func96, Tryz.ntmps96
        go_wp2_with (first
          | (go_at_call 89; refine (HC.out _).mono ?_; rintro e w' ⟨rfl, rfl⟩)
          | (go_at_call 108; refine (HA.out _).mono ?_; rintro e w' ⟨rfl, rfl⟩; rw [ha])
          | (go_at_call 109; refine (HN.out _ _).mono ?_; rintro e w' ⟨rfl, rfl⟩))
        go_ret2
        rw [HR.out]
        exact ⟨rfl, rfl⟩
end Go.Proofs.YtemejaomfbhldaaGreatDoor
