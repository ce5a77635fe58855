/- What the reference's Fields computes. -/
import Derived.Test.YtjdljholajacdaaDoorFields
namespace Go.Proofs.YtjdljholajacdaaDoor
open Go.RowKit

set_option maxRecDepth 100000 in
set_option maxHeartbeats 8000000 in
theorem rfields_any (s : ByteArray) (hs : s.size ≤ 1000000) (w : World) :
    Calls Tryd.prog 61 #[.string s] w fun e w' => ∃ v, e = .returned v ∧ Strs w' v (fldS s) ∧ Kept w w' := by
  obtain ⟨i0, hi, hz0, hz1, hz2⟩ := info_parts Tryd.infoStr
  go_enter Tryd.func61, Tryd.ntmps61
  go_wp2_with fail
  go_loopw [3, 4, 5] (fun x y z wr => ∃ (pos : Nat) (st : Int) (acc : List ByteArray), -1 ≤ st ∧ st ≤ pos ∧ y = .int .i64 st ∧ z = .int .i64 pos ∧ acc.length ≤ pos ∧ Kept w wr ∧ Gath wr w.heap.size x acc ∧
      ((pos ≤ s.size ∧ acc ++ flds s ((L s).drop pos) pos st = fldS s) ∨ (pos = s.size + 1 ∧ acc = fldS s))) (fun _ _ z _ => (s.size + 1 - intOf z).toNat)
  case atStart => exact ⟨0, -1, [], by omega, by omega, rfl, rfl, Nat.le_refl _, (Kept.refl _).alloc _, Gath.fresh _ _ (Nat.le_refl _), .inl ⟨Nat.zero_le _, by rw [List.drop_zero]; rfl⟩⟩
  case round =>
    obtain ⟨pos, st, acc, hst1, hst, rfl, rfl, hacc, hK, hown, hrun⟩ := hrel
    have hsz := hK.size
    have HIG := Lib.hid hown
    have HIK := Lib.hid hK
    rcases hrun with ⟨hps, hrun⟩ | ⟨hps, hrun⟩
    · by_cases hp : pos < s.size
      · rw [L_drop s pos hp] at hrun
        have hpe : ((pos : Int) == s.size) = false := by rw [beq_eq_false_iff_ne]; omega
        cases hbl : blank (s[pos]'hp)
        · rw [flds_on hbl] at hrun
          have hb' : ¬ ((s[pos]'hp).toNat = 32 ∨ (s[pos]'hp).toNat = 9) := fun e => by rw [blank_iff.2 e] at hbl; cases hbl
          have r1b : ((((s[pos]'hp).toNat : Nat) : Int) == 32) = false := by rw [beq_eq_false_iff_ne]; omega
          have r2b : ((((s[pos]'hp).toNat : Nat) : Int) == 9) = false := by rw [beq_eq_false_iff_ne]; omega
          clear hb' hbl hown hK
          by_cases hs0 : st < 0
          · rw [if_pos hs0] at hrun
            have HRUN := Lib.hid hrun
            clear hrun
            go_wp2_with fail
            go_roundw
            case rel => exact ⟨pos + 1, pos, acc, by omega, by omega, rfl, by go_num, by omega, HIK.out, HIG.out, .inl ⟨hp, HRUN.out⟩⟩
            case measure => simp only [intOf]; omega
          · rw [if_neg hs0] at hrun
            have HRUN := Lib.hid hrun
            have hs1 : 0 ≤ st := by omega
            clear hrun
            go_wp2_with fail
            go_roundw
            case rel => exact ⟨pos + 1, st, acc, by omega, by omega, rfl, by go_num, by omega, HIK.out, HIG.out, .inl ⟨hp, HRUN.out⟩⟩
            case measure => simp only [intOf]; omega
        · have hb' := blank_iff.1 hbl
          by_cases hs0 : st < 0
          · rw [flds_gap hbl hs0] at hrun
            have HRUN := Lib.hid hrun
            clear hrun hown hK hbl
            by_cases h32 : (s[pos]'hp).toNat = 32
            · go_wp2_with fail
              go_roundw
              case rel => exact ⟨pos + 1, -1, acc, by omega, by omega, by congr 1; omega, by go_num, by omega, HIK.out, HIG.out, .inl ⟨hp, HRUN.out⟩⟩
              case measure => simp only [intOf]; omega
            · have h9 : (s[pos]'hp).toNat = 9 := by omega
              have r1b : ((((s[pos]'hp).toNat : Nat) : Int) == 32) = false := by rw [beq_eq_false_iff_ne]; omega
              clear h32 hb'
              go_wp2_with fail
              go_roundw
              case rel => exact ⟨pos + 1, -1, acc, by omega, by omega, by congr 1; omega, by go_num, by omega, HIK.out, HIG.out, .inl ⟨hp, HRUN.out⟩⟩
              case measure => simp only [intOf]; omega
          · rw [flds_word hbl (by omega)] at hrun
            obtain ⟨q, rfl⟩ : ∃ q : Nat, st = (q : Int) := ⟨st.toNat, by omega⟩
            have HRUN := Lib.hid (show (acc ++ [s.extract q pos]) ++ flds s ((L s).drop (pos + 1)) (pos + 1) (-1) = fldS s by rw [← hrun]; simp)
            have hq0 : (0 : Int) ≤ (q : Int) := by omega
            clear hrun hown hK hbl
            by_cases h32 : (s[pos]'hp).toNat = 32
            · go_wp2_with (at_builtin; refine wpList_append_own _ rfl (.tmp 35) (.tmp 40) 37 rfl w.heap.size 9 i0 (.string ⟨#[]⟩) 1 16 (by kernel_rfl) hi hz0 hz1 hz2 rfl (by decide) _ acc.length (acc.map Value.string) rfl (World.ownsRow.alloc HIG.out _) ⟨wr.heap.size, 0, none⟩ 1 1 [.string (s.extract q pos)] rfl rfl one_cell one_cell' (by unfold maxLen; omega) (by omega) (by simp; omega) ?_; intro v' w1 hown' hgrow _)
              go_roundw
              case rel => exact ⟨pos + 1, -1, acc ++ [s.extract q pos], by omega, by omega, rfl, by go_num, by simp; omega, grown_kept HIK.out HIG.out (Nat.le_refl _) hgrow, Gath.snoc hown', .inl ⟨hp, HRUN.out⟩⟩
              case measure => simp only [intOf]; omega
            · have h9 : (s[pos]'hp).toNat = 9 := by omega
              have r1b : ((((s[pos]'hp).toNat : Nat) : Int) == 32) = false := by rw [beq_eq_false_iff_ne]; omega
              clear h32 hb'
              go_wp2_with (at_builtin; refine wpList_append_own _ rfl (.tmp 35) (.tmp 40) 37 rfl w.heap.size 9 i0 (.string ⟨#[]⟩) 1 16 (by kernel_rfl) hi hz0 hz1 hz2 rfl (by decide) _ acc.length (acc.map Value.string) rfl (World.ownsRow.alloc HIG.out _) ⟨wr.heap.size, 0, none⟩ 1 1 [.string (s.extract q pos)] rfl rfl one_cell one_cell' (by unfold maxLen; omega) (by omega) (by simp; omega) ?_; intro v' w1 hown' hgrow _)
              go_roundw
              case rel => exact ⟨pos + 1, -1, acc ++ [s.extract q pos], by omega, by omega, rfl, by go_num, by simp; omega, grown_kept HIK.out HIG.out (Nat.le_refl _) hgrow, Gath.snoc hown', .inl ⟨hp, HRUN.out⟩⟩
              case measure => simp only [intOf]; omega
      · obtain rfl : pos = s.size := by omega
        rw [List.drop_of_length_le (by rw [L_length]; omega), flds] at hrun
        clear hown hK
        by_cases hs0 : st < 0
        · have HRUN := Lib.hid (show acc = fldS s by rw [← hrun, if_neg (by omega)]; simp)
          clear hrun
          go_wp2_with fail
          go_roundw
          case rel => exact ⟨s.size + 1, st, acc, by omega, by omega, rfl, by go_num, by omega, HIK.out, HIG.out, .inr ⟨rfl, HRUN.out⟩⟩
          case measure => simp only [intOf]; omega
        · obtain ⟨q, rfl⟩ : ∃ q : Nat, st = (q : Int) := ⟨st.toNat, by omega⟩
          have HRUN := Lib.hid (show acc ++ [s.extract q s.size] = fldS s by rw [← hrun, if_pos (by omega)]; rfl)
          have hq0 : (0 : Int) ≤ (q : Int) := by omega
          clear hrun
          go_wp2_with (at_builtin; refine wpList_append_own _ rfl (.tmp 35) (.tmp 40) 37 rfl w.heap.size 9 i0 (.string ⟨#[]⟩) 1 16 (by kernel_rfl) hi hz0 hz1 hz2 rfl (by decide) _ acc.length (acc.map Value.string) rfl (World.ownsRow.alloc HIG.out _) ⟨wr.heap.size, 0, none⟩ 1 1 [.string (s.extract q s.size)] rfl rfl one_cell one_cell' (by unfold maxLen; omega) (by omega) (by simp; omega) ?_; intro v' w1 hown' hgrow _)
          go_roundw
          case rel => exact ⟨s.size + 1, -1, acc ++ [s.extract q s.size], by omega, by omega, rfl, by go_num, by simp; omega, grown_kept HIK.out HIG.out (Nat.le_refl _) hgrow, Gath.snoc hown', .inr ⟨rfl, HRUN.out⟩⟩
          case measure => simp only [intOf]; omega
    · subst hrun
      have HS := Lib.hid hown.strs
      have hpg : (s.size : Int) < pos := by omega
      clear hown hK
      go_wp2_with fail
      go_ret
      exact ⟨_, rfl, HS.out, HIK.out⟩
end Go.Proofs.YtjdljholajacdaaDoor
