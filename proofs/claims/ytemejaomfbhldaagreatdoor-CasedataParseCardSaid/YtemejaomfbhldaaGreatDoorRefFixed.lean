/- What the reference's FormatFixed computes. -/
import Derived.Test.YtemejaomfbhldaaGreatDoorFixed
import Derived.Test.YtemejaomfbhldaaGreatDoorRefParseC
namespace Go.Proofs.YtemejaomfbhldaaGreatDoor
open Go.RowKit

theorem absD_head (n : Int) : (absD n).head? ≠ some 45 := by
  intro h
  have hd := decDigits_all n.natAbs
  have hm : (45 : UInt8) ∈ absD n := List.mem_of_mem_head? h
  rw [List.all_eq_true] at hd
  exact absurd (hd 45 hm) (by decide)
theorem numS_neg_b (n : Int) : negB (L (numS n)) = decide (n < 0) ∧ bodyL (L (numS n)) = absD n := by
  by_cases hn : n < 0
  · rw [numS_neg hn, L_bs]
    exact ⟨by rw [decide_eq_true hn]; rfl, rfl⟩
  · rw [numS_pos hn, L_bs]
    have h : negB (absD n) = false := by
      have := absD_head n
      unfold negB
      rw [beq_eq_false_iff_ne]; exact this
    exact ⟨by rw [h, decide_eq_false hn], by rw [bodyL, h]; rfl⟩
theorem sign_num (n : Int) (w : World) :
    Calls Tryz.prog 89 #[.string (numS n)] w fun e w' => e = .returned (.tuple #[.string (bs (absD n)), .bool (decide (n < 0))]) ∧ w = w' := by
  have h := rsign_any (numS n) w
  rw [(numS_neg_b n).1, (numS_neg_b n).2] at h
  exact h

set_option maxRecDepth 100000 in
set_option maxHeartbeats 4000000 in
theorem rformatFixed_zero (n p : Int) (hq : min (max p 0) 9 = 0) (h0 : -9223372036854775808 ≤ n) (h1 : n ≤ 9223372036854775807) (w : World) :
    Calls Tryz.prog 71 #[.int .i64 n, .int .i64 p] w fun e w' => e = .returned (.string (numS n)) ∧ Kept w w' := by
  have HQ := Lib.hid (fun w => (hq ▸ rclamp_any p w : Calls Tryz.prog 88 #[.int .i64 p] w fun e w' => e = .returned (.int .i64 0) ∧ w = w'))
  clear hq
  go_enter Tryz.func71, Tryz.ntmps71
  go_wp2_with (first
    | (go_at_call 88; refine (HQ.out _).mono ?_; rintro e w' ⟨rfl, rfl⟩)
    | (go_at_call 68; refine (rfmtInt_any n h0 h1 _).mono ?_; rintro e w' ⟨rfl, hk⟩))
  go_ret
  exact ⟨rfl, hk⟩

set_option maxRecDepth 100000 in
set_option maxHeartbeats 4000000 in
theorem rformatFixed_pos (n p q : Int) (hq : min (max p 0) 9 = q) (q1 : 1 ≤ q) (h0 : -9223372036854775808 ≤ n) (h1 : n ≤ 9223372036854775807) (w : World) :
    Calls Tryz.prog 71 #[.int .i64 n, .int .i64 p] w fun e w' => e = .returned (.string (bs (fixT n q.toNat))) ∧ Kept w w' := by
  have q9 : q ≤ 9 := by omega
  have HQ := Lib.hid (fun w => (hq ▸ rclamp_any p w : Calls Tryz.prog 88 #[.int .i64 p] w fun e w' => e = .returned (.int .i64 q) ∧ w = w'))
  clear hq
  have HF := Lib.hid (fun w => rfmtInt_any n h0 h1 w)
  have HS := Lib.hid (fun w => sign_num n w)
  have hl := absD_len n h0 h1
  have hp : 0 < (absD n).length := List.length_pos_iff.2 (decDigits_ne _)
  generalize hN : numS n = N at *
  go_enter Tryz.func71, Tryz.ntmps71
  go_wp2_with (first
    | (go_at_call 88; refine (HQ.out _).mono ?_; rintro e w' ⟨rfl, rfl⟩)
    | (go_at_call 68; refine (HF.out _).mono ?_; rintro e w' ⟨rfl, hk⟩)
    | (go_at_call 89; refine (HS.out _).mono ?_; rintro e w' ⟨rfl, rfl⟩))
  clear HQ HF HS
  go_loop [6] (fun x => ∃ (j : Nat) (S : ByteArray), x = .string S ∧ S = bs (List.replicate j 48 ++ absD n) ∧ S.size = j + (absD n).length ∧ (j = 0 ∨ S.size ≤ q.toNat + 1)) (fun x => match x with | .string S => q.toNat + 1 - S.size | _ => 0)
  case atStart => exact ⟨0, bs (absD n), rfl, rfl, by rw [bs_size]; omega, .inl rfl⟩
  case round =>
    obtain ⟨j, S, rfl, hS, hz, hj⟩ := hrel
    by_cases hlt : (S.size : Int) ≤ q
    · have HS := Lib.hid hS
      clear hS
      go_wp2_with fail
      go_round
      case rel =>
        refine ⟨j + 1, _, rfl, ?_, ?_, .inr ?_⟩
        · rw [HS.out]; exact bs_append [48] _
        · rw [ByteArray.size_append, hz]; show 1 + _ = _; omega
        · rw [ByteArray.size_append]; show 1 + _ ≤ _; omega
      case measure => simp only [ByteArray.size_append]; show q.toNat + 1 - (1 + _) < _; omega
    · obtain ⟨k, hK⟩ : ∃ k : Nat, (S.size : Int) - q = (k : Int) := ⟨((S.size : Int) - q).toNat, by omega⟩
      have hjj : j = q.toNat + 1 - (absD n).length := by rcases hj with h | h <;> omega
      have hLS : L S = padD n q.toNat := by rw [hS, L_bs, padD, hjj]
      have zT : S.size = k + q.toNat := by omega
      have zX2 : S.size ≤ 40 := by omega
      have hd1 : (k : Int) ≤ S.size := by omega
      have f1 := ext_size01 S 0 k (by omega)
      have f2 := ext_size01 S k S.size (Nat.le_refl _)
      obtain ⟨P, hPx⟩ : ∃ P, S.extract 0 k = P := ⟨_, rfl⟩
      obtain ⟨R, hRx⟩ : ∃ R, S.extract k S.size = R := ⟨_, rfl⟩
      rw [hPx] at f1
      rw [hRx] at f2
      have m4 : ¬ (9223372036854775807 < P.size + 1) := by omega
      have m5 : ¬ (9223372036854775807 < P.size + 1 + R.size) := by omega
      have f3 : P.size ≤ 40 := by omega
      have f4 : R.size ≤ 40 := by omega
      have he := fun g hg => fix_end n q.toNat k S hLS zT g hg
      rw [hPx, hRx] at he
      have HE1 := Lib.hid (fun hn : n < 0 => (show (⟨#[45]⟩ : ByteArray) ++ (P ++ ⟨#[46]⟩ ++ R) = bs (fixT n q.toNat) by
        rw [← he ⟨#[45]⟩ (by rw [sgn, if_pos hn]; rfl), ← L_inj]; simp only [L_append, List.append_assoc]))
      have HE2 := Lib.hid (fun hn : ¬ n < 0 => (show P ++ ⟨#[46]⟩ ++ R = bs (fixT n q.toNat) by
        rw [← he ⟨#[]⟩ (by rw [sgn, if_neg hn]; rfl), ← L_inj]; simp only [L_append]; rfl))
      clear he
      clear f1 f2 hS hz hj hjj hLS zT hl hp hN
      go_wp2_with fail
      refine wp_region_kept (by kernel_rfl) (by kernel_rfl) ?_
      repeat (go_big_quiet_step (fail))
      refine wpQuiet_nil ?_
      rintro _ ⟨⟨wx, hx⟩, rfl⟩
      by_cases hn : n < 0
      · have m6 : ¬ (9223372036854775807 < 1 + (P.size + 1 + R.size)) := by omega
        have hdn : decide (n < 0) = true := decide_eq_true hn
        go_wp2_with fail
        go_ret
        exact ⟨ret_str (HE1.out hn), hk.trans hx⟩
      · have hdn : decide (n < 0) = false := decide_eq_false hn
        go_wp2_with fail
        go_ret
        exact ⟨ret_str (HE2.out hn), hk.trans hx⟩
theorem rformatFixed_any (n p : Int) (h0 : -9223372036854775808 ≤ n) (h1 : n ≤ 9223372036854775807) (w : World) :
    Calls Tryz.prog 71 #[.int .i64 n, .int .i64 p] w fun e w' => e = .returned (.string (fixS n (max 0 (min p 9)))) ∧ Kept w w' := by
  have e : max 0 (min p 9) = min (max p 0) 9 := by omega
  rw [e]
  by_cases h : min (max p 0) 9 = 0
  · rw [fixS, if_pos h]; exact rformatFixed_zero n p h h0 h1 w
  · rw [fixS, if_neg h]; exact rformatFixed_pos n p _ rfl (by omega) h0 h1 w
end Go.Proofs.YtemejaomfbhldaaGreatDoor
