/- The exported functions of numtext and of its reference, and the fixed examples of the chapter: awake returns true. -/
import Derived.Test.YtemejaomfbhldaaGreatDoorParseEq
import Derived.Test.YtemejaomfbhldaaGreatDoorRefFixed
import Derived.Test.YtemejaomfbhldaaGreatDoorRefLines
import Derived.Test.YtemejaomfbhldaaGreatDoorRefFields
import Derived.Test.YtemejaomfbhldaaGreatDoorSame
namespace Go.Proofs.YtemejaomfbhldaaGreatDoor
open Go.RowKit

theorem parseInt_any (s : ByteArray) (hs : s.size ≤ 1000000) (w : World) :
    Calls Tryz.prog 93 #[.string s] w fun e w' => e = .returned (.tuple #[.int .i64 (parP (L s) 0).1, .int .i64 (parP (L s) 0).2]) ∧ Kept w w' := by
  have HP := Lib.hid (fun w => parse_num s 0 hs (by omega) (by omega) w)
  generalize parP (L s) 0 = r at *
  go_enter Tryz.func93, Tryz.ntmps93
  go_wp2_with (go_at_call 106; refine (HP.out _).mono ?_; rintro e w' ⟨rfl, hk⟩)
  go_ret2
  exact ⟨rfl, hk⟩
theorem parseFixed_any (s : ByteArray) (p : Int) (hs : s.size ≤ 1000000) (w : World) :
    Calls Tryz.prog 94 #[.string s, .int .i64 p] w fun e w' => e = .returned (.tuple #[.int .i64 (refP (L s) p).1, .int .i64 (refP (L s) p).2]) ∧ Kept w w' := by
  rw [← parP_refP]
  obtain ⟨q, hq⟩ : ∃ q, max 0 (min p 9) = q := ⟨_, rfl⟩
  have HQ := Lib.hid (fun w => (hq ▸ clamp_any p w : Calls Tryz.prog 84 #[.int .i64 p] w fun e w' => e = .returned (.int .i64 q) ∧ w = w'))
  have HP := Lib.hid (fun w => parse_num s q hs (by omega) (by omega) w)
  rw [hq]
  clear hq
  generalize parP (L s) q = r at *
  go_enter Tryz.func94, Tryz.ntmps94
  go_wp2_with (first
    | (go_at_call 84; refine (HQ.out _).mono ?_; rintro e w' ⟨rfl, rfl⟩)
    | (go_at_call 106; refine (HP.out _).mono ?_; rintro e w' ⟨rfl, hk⟩))
  go_ret2
  exact ⟨rfl, hk⟩
theorem rparseFixed_zero (s : ByteArray) (p : Int) (hq : min (max p 0) 9 = 0) (hs : s.size ≤ 1000000) (w : World) :
    Calls Tryz.prog 97 #[.string s, .int .i64 p] w fun e w' => e = .returned (.tuple #[.int .i64 (refI (L s)).1, .int .i64 (refI (L s)).2]) ∧ Kept w w' := by
  have HQ := Lib.hid (fun w => (hq ▸ rclamp_any p w : Calls Tryz.prog 88 #[.int .i64 p] w fun e w' => e = .returned (.int .i64 0) ∧ w = w'))
  have HP := Lib.hid (fun w => rparseInt_any s hs w)
  clear hq
  generalize refI (L s) = r at *
  go_enter Tryz.func97, Tryz.ntmps97
  go_wp2_with (first
    | (go_at_call 88; refine (HQ.out _).mono ?_; rintro e w' ⟨rfl, rfl⟩)
    | (go_at_call 96; refine (HP.out _).mono ?_; rintro e w' ⟨rfl, rfl⟩))
  go_ret2
  exact ⟨rfl, Kept.refl _⟩
theorem rparseFixed_any (s : ByteArray) (p : Int) (hs : s.size ≤ 1000000) (w : World) :
    Calls Tryz.prog 97 #[.string s, .int .i64 p] w fun e w' => e = .returned (.tuple #[.int .i64 (refP (L s) p).1, .int .i64 (refP (L s) p).2]) ∧ Kept w w' := by
  unfold refP
  by_cases h : min (max p 0) 9 = 0
  · rw [if_pos h]; exact rparseFixed_zero s p h hs w
  · rw [if_neg h]; exact rparseFixed_pos s p _ rfl (by omega) hs w

theorem strs_lit2 (w : World) (a b : ByteArray) : Strs (w.alloc (.cells #[.string a, .string b] 9)) (.slice (some ⟨w.heap.size, 0, none⟩) 2 2) [a, b] := by
  refine ⟨_, _, rfl, fun _ => ⟨w.heap.size, 0, rfl, by simp, fun j hj => ?_⟩⟩
  match j, hj with
  | 0, _ => simp
  | 1, _ => simp
theorem ex_lines : linR ⟨#[97, 10, 98, 10]⟩ = ([⟨#[97]⟩, ⟨#[98]⟩], 0) := by rfl
theorem ex_fields : fldS ⟨#[32, 97, 9, 98, 99, 32]⟩ = [⟨#[97]⟩, ⟨#[98, 99]⟩] := by rfl
theorem ex_int : parP (L ⟨#[48, 48, 55]⟩) 0 = (0, 2) := by decide
theorem ex_fix : refP (L ⟨#[45, 48, 46, 48, 53]⟩) 2 = (-5, 0) := by decide
theorem ex_dig : absD (-5) = [53] := by
  rw [absD, Lib.decDigits, dif_pos (by decide)]; rfl
theorem ex_numS : numS (-5) = ⟨#[45, 53]⟩ := by rw [numS_neg (by decide), ex_dig]; rfl
theorem ex_fixS : fixS (-5) (max 0 (min 2 9)) = ⟨#[45, 48, 46, 48, 53]⟩ := by
  rw [fixS, if_neg (by decide), fixT, padD, ex_dig]; rfl

end Go.Proofs.YtemejaomfbhldaaGreatDoor
