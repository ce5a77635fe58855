/- What Fields of package numtext, and of the reference, computes: the words of a string. -/
import Derived.Test.YtplconloofpakaaDoorFieldsMath
namespace Go.Proofs.YtplconloofpakaaDoor
open Go.RowKit

theorem ret_strs {e : Ending} {v : Value} {w w' : World} {xs : List ByteArray} (h1 : e = .returned v) (h2 : Strs w' v xs) (h3 : Kept w w') : ∃ v, e = .returned v ∧ Strs w' v xs ∧ Kept w w' := ⟨v, h1, h2, h3⟩

set_option maxRecDepth 100000 in
set_option maxHeartbeats 8000000 in
theorem fields_any (s : ByteArray) (hs : s.size ≤ 1000000) (w : World) :
    Calls Tryd.prog 43 #[.string s] w fun e w' => ∃ v, e = .returned v ∧ Strs w' v (fldS s) ∧ Kept w w' := by
  obtain ⟨i0, hi, hz0, hz1, hz2⟩ := info_parts Tryd.infoStr
  go_enter Tryd.func43, Tryd.ntmps43
  go_wp2_with fail
  go_loopw [3, 4] (fun x y wr => ∃ (pos : Nat) (st : Int) (acc : List ByteArray), pos ≤ s.size ∧ -1 ≤ st ∧ st ≤ pos ∧ y = .int .i64 st ∧ acc.length ≤ pos ∧ wr.heap[w.heap.size]? = some (.stringIter s pos) ∧ Kept w wr ∧ Gath wr (w.heap.size + 1) x acc ∧ w.heap.size + 1 ≤ wr.heap.size ∧
      acc ++ flds s ((L s).drop pos) pos st = fldS s) (fun _ _ wr => s.size - wr.iterPos w.heap.size)
  case atStart => exact ⟨0, -1, [], Nat.zero_le _, by omega, by omega, rfl, Nat.le_refl _, World.iter_heap _ _ _, (Kept.refl _).alloc _, Gath.nil _ _, by simp [World.iter], by rw [List.drop_zero]; rfl⟩
  case round =>
    obtain ⟨pos, st, acc, hps, hst1, hst, rfl, hacc, hit, hK, hown, hsz, hrun⟩ := hrel
    have HIT0 := Lib.hid hit
    by_cases hp : pos < s.size
    · cases hbl : blank (s[pos]'hp)
      · have hwid : 1 ≤ (Utf8.decode s pos).2 ∧ (∀ j, j < (Utf8.decode s pos).2 → ∃ hj : pos + j < s.size, blank (s[pos + j]'hj) = false) ∧ (Utf8.decode s pos).1 ≠ 32 ∧ (Utf8.decode s pos).1 ≠ 9 := by
          have hb' : ¬ ((s[pos]'hp).toNat = 32 ∨ (s[pos]'hp).toNat = 9) := fun e => by rw [blank_iff.2 e] at hbl; cases hbl
          by_cases ha : (s[pos]'hp).toNat < 128
          · rw [decode_ascii s pos hp ha]
            refine ⟨Nat.le_refl _, fun j hj => ?_, by simp only; omega, by simp only; omega⟩
            have : j = 0 := by simp only at hj; omega
            subst this; exact ⟨hp, hbl⟩
          · obtain ⟨d1, d2⟩ := decode_bytes s pos hp (by omega)
            have d3 := (decode_high s pos hp (by omega)).1
            refine ⟨d1, fun j hj => ?_, by omega, by omega⟩
            obtain ⟨hj', d4⟩ := d2 j hj
            refine ⟨hj', ?_⟩
            cases hc : blank (s[pos + j]'hj')
            · rfl
            · have := blank_iff.1 hc; omega
        obtain ⟨d1, d2, d3, d4⟩ := hwid
        have hskip := flds_skip s (Utf8.decode s pos).2 pos st d1 d2
        obtain ⟨d5, _⟩ := d2 ((Utf8.decode s pos).2 - 1) (by omega)
        have HRUN := Lib.hid (show acc ++ flds s ((L s).drop (pos + (Utf8.decode s pos).2)) (pos + (Utf8.decode s pos).2) (if st < 0 then (pos : Int) else st) = fldS s by rw [← hskip]; exact hrun)
        have hle := decode_le s pos
        have hnx : ∀ ty, (Instr.next (.pointer (some ⟨w.heap.size, 0, none⟩)) true ty).run Tryd.prog wr = _ := fun ty => Lib.run_next_any_at wr w.heap.size s pos ty hit hp
        have hIK : Kept w (wr.iterAt w.heap.size s (pos + (Utf8.decode s pos).2)) := Lib.below_iterAt hK (Nat.le_refl _) _ _
        have hIT := Lib.iterAt_heap wr w.heap.size s pos (pos + (Utf8.decode s pos).2) hit
        have hIS : w.heap.size + 1 ≤ (wr.iterAt w.heap.size s (pos + (Utf8.decode s pos).2)).heap.size := by rw [Lib.iterAt_size]; exact hsz
        have hIG := Gath.iterAt hown s (pos + (Utf8.decode s pos).2)
        clear hrun hK hown hit hsz hskip d2 hbl
        generalize (Utf8.decode s pos).2 = k at *
        generalize (Utf8.decode s pos).1 = r at *
        generalize wr.iterAt w.heap.size s (pos + k) = W at *
        have HIG := Lib.hid hIG
        have HIK := Lib.hid hIK
        have HIT := Lib.hid hIT
        clear hIG hIK hIT
        have r1b : ((r : Int) == 32) = false := by rw [beq_eq_false_iff_ne]; omega
        have r2b : ((r : Int) == 9) = false := by rw [beq_eq_false_iff_ne]; omega
        by_cases hs0 : st < 0
        · have HRUN2 := Lib.hid (show acc ++ flds s ((L s).drop (pos + k)) (pos + k) (pos : Int) = fldS s by have := HRUN.out; rwa [if_pos hs0] at this)
          go_wp2_with fail
          go_roundw
          case rel => exact ⟨pos + k, pos, acc, by omega, by omega, by omega, rfl, by omega, HIT.out, HIK.out, HIG.out, hIS, HRUN2.out⟩
          case measure => rw [iterPos_of HIT.out, iterPos_of HIT0.out]; omega
        · have HRUN2 := Lib.hid (show acc ++ flds s ((L s).drop (pos + k)) (pos + k) st = fldS s by have := HRUN.out; rwa [if_neg hs0] at this)
          have hs1 : 0 ≤ st := by omega
          go_wp2_with fail
          go_roundw
          case rel => exact ⟨pos + k, st, acc, by omega, by omega, by omega, rfl, by omega, HIT.out, HIK.out, HIG.out, hIS, HRUN2.out⟩
          case measure => rw [iterPos_of HIT.out, iterPos_of HIT0.out]; omega
      · have hb' := blank_iff.1 hbl
        rw [L_drop s pos hp] at hrun
        have hnx : ∀ ty, (Instr.next (.pointer (some ⟨w.heap.size, 0, none⟩)) true ty).run Tryd.prog wr = _ := fun ty => Lib.run_next_ascii_at wr w.heap.size s pos ty hit hp (by omega)
        have hIK : Kept w (wr.iterAt w.heap.size s (pos + 1)) := Lib.below_iterAt hK (Nat.le_refl _) _ _
        have hIT := Lib.iterAt_heap wr w.heap.size s pos (pos + 1) hit
        have hIS : w.heap.size + 1 ≤ (wr.iterAt w.heap.size s (pos + 1)).heap.size := by rw [Lib.iterAt_size]; exact hsz
        have hIG := Gath.iterAt hown s (pos + 1)
        by_cases hs0 : st < 0
        · rw [flds_gap hbl hs0] at hrun
          have HRUN := Lib.hid hrun
          clear hrun hK hown hit hsz hbl
          generalize wr.iterAt w.heap.size s (pos + 1) = W at *
          have HIG := Lib.hid hIG
          have HIK := Lib.hid hIK
          have HIT := Lib.hid hIT
          clear hIG hIK hIT
          generalize (s[pos]'hp).toNat = c at *
          rcases hb' with rfl | rfl
          all_goals
            go_wp2_with fail
            go_roundw
            case rel => exact ⟨pos + 1, -1, acc, by omega, by omega, by omega, rfl, by omega, HIT.out, HIK.out, HIG.out, hIS, HRUN.out⟩
            case measure => rw [iterPos_of HIT.out, iterPos_of HIT0.out]; omega
        · rw [flds_word hbl (by omega)] at hrun
          obtain ⟨q, rfl⟩ : ∃ q : Nat, st = (q : Int) := ⟨st.toNat, by omega⟩
          have HRUN := Lib.hid (show (acc ++ [s.extract q pos]) ++ flds s ((L s).drop (pos + 1)) (pos + 1) (-1) = fldS s by rw [← hrun]; simp)
          clear hrun hK hown hit hsz hbl
          generalize wr.iterAt w.heap.size s (pos + 1) = W at *
          have HIG := Lib.hid hIG
          have HIK := Lib.hid hIK
          have HIT := Lib.hid hIT
          clear hIG hIK hIT
          generalize (s[pos]'hp).toNat = c at *
          have hq0 : (0 : Int) ≤ (q : Int) := by omega
          rcases hb' with rfl | rfl
          all_goals
            go_wp2_with (at_builtin; refine wpList_append_own _ rfl (.tmp 21) (.tmp 26) 42 rfl (w.heap.size + 1) 9 i0 (.string ⟨#[]⟩) 1 16 (by kernel_rfl) hi hz0 hz1 hz2 rfl (by decide) _ acc.length (acc.map Value.string) rfl (World.ownsRow.alloc HIG.out _) ⟨W.heap.size, 0, none⟩ 1 1 [.string (s.extract q pos)] rfl rfl one_cell one_cell' (by unfold maxLen; omega) (by omega) (by simp; omega) ?_; intro v' w1 hown' hgrow _)
            go_roundw
            case rel =>
              refine ⟨pos + 1, -1, acc ++ [s.extract q pos], hp, by omega, by omega, rfl, by simp; omega, ?_, grown_kept HIK.out HIG.out (by omega) hgrow, Gath.snoc hown', ?_, HRUN.out⟩
              · exact (grown_block HIG.out hgrow (by omega) (by omega)).trans HIT.out
              · have := grown_size hgrow; omega
            case measure => rw [iterPos_of ((grown_block HIG.out hgrow (by omega) (by omega)).trans HIT.out), iterPos_of HIT0.out]; omega
    · rw [List.drop_of_length_le (by rw [L_length]; omega), flds] at hrun
      have hnx : ∀ ty, (Instr.next (.pointer (some ⟨w.heap.size, 0, none⟩)) true ty).run Tryd.prog wr = _ := fun ty => Lib.run_next_end_at wr w.heap.size s pos ty hit hp
      have HIG := Lib.hid hown
      have HIK := Lib.hid hK
      by_cases hs0 : st < 0
      · have HRUN := Lib.hid (show fldS s = acc by rw [← hrun, if_neg (by omega)]; simp)
        have HS := Lib.hid hown.strs
        clear hrun hown hit hK
        go_wp2_with fail
        go_ret
        rw [HRUN.out]
        exact ⟨_, rfl, HS.out, HIK.out⟩
      · obtain ⟨q, rfl⟩ : ∃ q : Nat, st = (q : Int) := ⟨st.toNat, by omega⟩
        have HRUN := Lib.hid (show fldS s = acc ++ [s.extract q s.size] by rw [← hrun, if_pos (by omega)]; rfl)
        have hq0 : (0 : Int) ≤ (q : Int) := by omega
        have hq1 : (q : Int) ≤ s.size := by omega
        clear hrun hown hit hK
        go_wp2_with (at_builtin; refine wpList_append_own _ rfl (.tmp 33) (.tmp 37) 42 rfl (w.heap.size + 1) 9 i0 (.string ⟨#[]⟩) 1 16 (by kernel_rfl) hi hz0 hz1 hz2 rfl (by decide) _ acc.length (acc.map Value.string) rfl (World.ownsRow.alloc HIG.out _) ⟨wr.heap.size, 0, none⟩ 1 1 [.string (s.extract q s.size)] rfl rfl one_cell one_cell' (by unfold maxLen; omega) (by omega) (by simp; omega) ?_; intro v' w1 hown' hgrow _)
        go_ret
        rw [HRUN.out]
        exact ⟨_, rfl, Gath.strs (Gath.snoc hown'), grown_kept HIK.out HIG.out (by omega) hgrow⟩
end Go.Proofs.YtplconloofpakaaDoor
