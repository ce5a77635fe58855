/- What the reference's SplitLines computes. -/
import Derived.Test.YtemejaomfbhldaaGreatDoorLines
namespace Go.Proofs.YtemejaomfbhldaaGreatDoor
open Go.RowKit

set_option maxRecDepth 100000 in
set_option maxHeartbeats 4000000 in
theorem rlines_any (s : ByteArray) (hs : s.size ≤ 1000000) (w : World) :
    Calls Tryz.prog 28 #[.string s] w fun e w' => ∃ v, e = .returned (.tuple #[v, .int .i64 (linR s).2]) ∧ Strs w' v (linR s).1 ∧ Kept w w' := by
  by_cases hbig : 65536 < s.size
  · have HR := Lib.hid (show linR s = ([], 4) by rw [linR, if_pos hbig])
    go_enter Tryz.func28, Tryz.ntmps28
    go_wp2_with fail
    go_ret2
    rw [HR.out]
    exact ⟨_, rfl, Strs.nil _, Kept.refl _⟩
  · obtain ⟨i0, hi, hz0, hz1, hz2⟩ := info_parts Tryz.infoStr
    go_enter Tryz.func28, Tryz.ntmps28
    go_wp2_with fail
    go_loopw [4, 5, 6] (fun x y z wr => ∃ (pos st : Nat) (acc : List ByteArray), pos ≤ s.size ∧ st ≤ pos ∧ y = .int .i64 st ∧ z = .int .i64 pos ∧ acc.length ≤ pos ∧ Kept w wr ∧ Gath wr w.heap.size x acc ∧
        (lns s ((L s).drop pos) pos st).map (fun p => (acc ++ p.1, p.2)) = lns s (L s) 0 0) (fun _ _ z _ => (s.size - intOf z).toNat)
    case atStart => exact ⟨0, 0, [], Nat.zero_le _, Nat.le_refl _, rfl, rfl, Nat.le_refl _, (Kept.refl _).alloc _, Gath.fresh _ _ (Nat.le_refl _), by rw [List.drop_zero]; simp⟩
    case round =>
      obtain ⟨pos, st, acc, hps, hst, rfl, rfl, hacc, hK, hown, hrun⟩ := hrel
      have hsz := hK.size
      by_cases hp : pos < s.size
      · rw [L_drop s pos hp] at hrun
        have HIG := Lib.hid hown
        have HIK := Lib.hid hK
        by_cases h10 : (s[pos]'hp).toNat = 10
        · rw [lns_line _ h10] at hrun
          have HRUN := Lib.hid (show (lns s ((L s).drop (pos + 1)) (pos + 1) (pos + 1)).map (fun p => ((acc ++ [s.extract st pos]) ++ p.1, p.2)) = lns s (L s) 0 0 by
            rw [← hrun, Option.map_map]; congr 1; funext p; simp)
          clear hrun hK hown
          go_wp2_with (at_builtin; refine wpList_append_own _ rfl (.tmp 37) (.tmp 42) 42 rfl w.heap.size 9 i0 (.string ⟨#[]⟩) 1 16 (by kernel_rfl) hi hz0 hz1 hz2 rfl (by decide) _ acc.length (acc.map Value.string) rfl (World.ownsRow.alloc HIG.out _) ⟨wr.heap.size, 0, none⟩ 1 1 [.string (s.extract st pos)] rfl rfl one_cell one_cell' (by unfold maxLen; omega) (by omega) (by simp; omega) ?_; intro v' w1 hown' hgrow _)
          go_roundw
          case rel => exact ⟨pos + 1, pos + 1, acc ++ [s.extract st pos], hp, Nat.le_refl _, by go_num, by go_num, by simp; omega, grown_kept HIK.out HIG.out (Nat.le_refl _) hgrow, Gath.snoc hown', HRUN.out⟩
          case measure => simp only [intOf]; omega
        · have h10b : ((((s[pos]'hp).toNat : Nat) : Int) == 10) = false := by rw [beq_eq_false_iff_ne]; omega
          by_cases hok : (s[pos]'hp).toNat = 9 ∨ (32 ≤ (s[pos]'hp).toNat ∧ (s[pos]'hp).toNat ≤ 126)
          · rw [lns_ok _ h10 hok] at hrun
            have HRUN := Lib.hid hrun
            clear hrun hK hown
            rcases hok with k0 | ⟨k1, k2⟩
            · go_wp2_with fail
              go_roundw
              case rel => exact ⟨pos + 1, st, acc, hp, by omega, rfl, by go_num, by omega, HIK.out, HIG.out, HRUN.out⟩
              case measure => simp only [intOf]; omega
            · go_wp2_with fail
              go_roundw
              case rel => exact ⟨pos + 1, st, acc, hp, by omega, rfl, by go_num, by omega, HIK.out, HIG.out, HRUN.out⟩
              case measure => simp only [intOf]; omega
          · rw [lns_bad _ h10 hok] at hrun
            have HR := Lib.hid (show linR s = ([], 2) by rw [linR, if_neg hbig, ← hrun]; rfl)
            clear hrun hK hown
            have h9b : ((((s[pos]'hp).toNat : Nat) : Int) == 9) = false := by rw [beq_eq_false_iff_ne]; omega
            have hr : (s[pos]'hp).toNat < 32 ∨ (32 ≤ (s[pos]'hp).toNat ∧ 126 < (s[pos]'hp).toNat) := by omega
            rcases hr with r3 | ⟨r4, r3⟩
            all_goals
              go_wp2_with fail
              go_ret2
              rw [HR.out]
              exact ⟨_, rfl, Strs.nil _, HIK.out⟩
      · rw [List.drop_of_length_le (by rw [L_length]; omega), lns_end] at hrun
        have hrun' : lns s (L s) 0 0 = some (acc, st) := by rw [← hrun]; simp
        by_cases hes : st = s.size
        · have HR := Lib.hid (show linR s = (acc, 0) by rw [linR, if_neg hbig, hrun']; simp [hes])
          have HS := Lib.hid hown.strs
          have HK := Lib.hid hK
          clear hrun hrun' hown hK
          go_wp2_with fail
          go_ret2
          rw [HR.out]
          exact ⟨_, rfl, HS.out, HK.out⟩
        · have HR := Lib.hid (show linR s = ([], 2) by rw [linR, if_neg hbig, hrun']; simp [hes])
          have HK := Lib.hid hK
          have hlt : (st : Int) < s.size := by omega
          clear hrun hrun' hown hK
          go_wp2_with fail
          go_ret2
          rw [HR.out]
          exact ⟨_, rfl, Strs.nil _, HK.out⟩
end Go.Proofs.YtemejaomfbhldaaGreatDoor
