/- What SplitLines of package numtext, and of the reference, computes. -/
import Derived.Test.YtemejaomfbhldaaGreatDoorStrs
namespace Go.Proofs.YtemejaomfbhldaaGreatDoor
open Go.RowKit

def okC (c : UInt8) : Bool := c == 9 || (decide (32 ≤ c.toNat) && decide (c.toNat ≤ 126))
def lns (s : ByteArray) : List UInt8 → Nat → Nat → Option (List ByteArray × Nat)
  | [], _, st => some ([], st)
  | c :: r, pos, st => if c = 10 then (lns s r (pos + 1) (pos + 1)).map (fun p => (s.extract st pos :: p.1, p.2)) else if okC c then lns s r (pos + 1) st else none
/-- the lines of a text, and the code -/
def linR (s : ByteArray) : List ByteArray × Int :=
  if 65536 < s.size then ([], 4) else match lns s (L s) 0 0 with
    | none => ([], 2)
    | some (l, e) => if e = s.size then (l, 0) else ([], 2)
theorem lns_end (s : ByteArray) (pos st : Nat) : lns s [] pos st = some ([], st) := rfl
theorem lns_line {s : ByteArray} {r : List UInt8} {pos st : Nat} (c : UInt8) (h : c.toNat = 10) : lns s (c :: r) pos st = (lns s r (pos + 1) (pos + 1)).map (fun p => (s.extract st pos :: p.1, p.2)) := by
  rw [lns, if_pos (UInt8.toNat_inj.1 (show c.toNat = (10 : UInt8).toNat from h))]
theorem lns_ok {s : ByteArray} {r : List UInt8} {pos st : Nat} (c : UInt8) (h : c.toNat ≠ 10) (ho : c.toNat = 9 ∨ (32 ≤ c.toNat ∧ c.toNat ≤ 126)) : lns s (c :: r) pos st = lns s r (pos + 1) st := by
  rw [lns, if_neg (fun e => h (by rw [e]; rfl)), if_pos]
  unfold okC
  rcases ho with h9 | ⟨h1, h2⟩
  · rw [show c = 9 from UInt8.toNat_inj.1 h9]; rfl
  · simp [h1, h2]
theorem lns_bad {s : ByteArray} {r : List UInt8} {pos st : Nat} (c : UInt8) (h : c.toNat ≠ 10) (ho : ¬ (c.toNat = 9 ∨ (32 ≤ c.toNat ∧ c.toNat ≤ 126))) : lns s (c :: r) pos st = none := by
  rw [lns, if_neg (fun e => h (by rw [e]; rfl)), if_neg]
  unfold okC
  intro e
  rw [Bool.or_eq_true, beq_iff_eq, Bool.and_eq_true, decide_eq_true_eq, decide_eq_true_eq] at e
  rcases e with e | e
  · exact ho (.inl (by rw [e]; rfl))
  · exact ho (.inr e)

set_option maxRecDepth 100000 in
set_option maxHeartbeats 4000000 in
theorem lines_any (s : ByteArray) (hs : s.size ≤ 1000000) (w : World) :
    Calls Tryz.prog 23 #[.string s] w fun e w' => ∃ v, e = .returned (.tuple #[v, .int .i64 (linR s).2]) ∧ Strs w' v (linR s).1 ∧ Kept w w' := by
  by_cases hbig : 65536 < s.size
  · have HR := Lib.hid (show linR s = ([], 4) by rw [linR, if_pos hbig])
    go_enter Tryz.func23, Tryz.ntmps23
    go_wp2_with fail
    go_ret2
    rw [HR.out]
    exact ⟨_, rfl, Strs.nil _, Kept.refl _⟩
  · by_cases hz : s.size = 0
    · have hl : L s = [] := List.length_eq_zero_iff.1 (by rw [L_length]; exact hz)
      have HR := Lib.hid (show linR s = ([], 0) by rw [linR, if_neg hbig, hl, lns_end]; simp [hz])
      have he : (s.toList == []) = true := by rw [toList_L, hl]; rfl
      clear hl
      go_enter Tryz.func23, Tryz.ntmps23
      go_wp2_with fail
      go_ret2
      rw [HR.out]
      exact ⟨_, rfl, Strs.nil _, Kept.refl _⟩
    · have he : (s.toList == []) = false := by
        rw [toList_L]
        cases hl : L s with
        | nil => have := congrArg List.length hl; rw [L_length] at this; exact absurd this hz
        | cons c r => rfl
      obtain ⟨i0, hi, hz0, hz1, hz2⟩ := info_parts Tryz.infoStr
      go_enter Tryz.func23, Tryz.ntmps23
      go_wp2_with fail
      clear he
      go_loopw [4, 5] (fun x y wr => ∃ (pos st : Nat) (acc : List ByteArray), pos ≤ s.size ∧ st ≤ pos ∧ y = .int .i64 st ∧ acc.length ≤ pos ∧ wr.heap[w.heap.size]? = some (.stringIter s pos) ∧ Kept w wr ∧ Gath wr (w.heap.size + 1) x acc ∧ w.heap.size + 1 ≤ wr.heap.size ∧
          (lns s ((L s).drop pos) pos st).map (fun p => (acc ++ p.1, p.2)) = lns s (L s) 0 0) (fun _ _ wr => s.size - wr.iterPos w.heap.size)
      case atStart => exact ⟨0, 0, [], Nat.zero_le _, Nat.le_refl _, rfl, Nat.le_refl _, World.iter_heap _ _ _, (Kept.refl _).alloc _, Gath.nil _ _, by simp [World.iter], by rw [List.drop_zero]; simp⟩
      case round =>
        obtain ⟨pos, st, acc, hps, hst, rfl, hacc, hit, hK, hown, hsz, hrun⟩ := hrel
        have HIT0 := Lib.hid hit
        by_cases hp : pos < s.size
        · rw [L_drop s pos hp] at hrun
          have hIK : Kept w (wr.iterAt w.heap.size s (pos + 1)) := Lib.below_iterAt hK (Nat.le_refl _) _ _
          have hIT := Lib.iterAt_heap wr w.heap.size s pos (pos + 1) hit
          have hIS : w.heap.size + 1 ≤ (wr.iterAt w.heap.size s (pos + 1)).heap.size := by rw [Lib.iterAt_size]; exact hsz
          have hIG := Gath.iterAt hown s (pos + 1)
          by_cases h10 : (s[pos]'hp).toNat = 10
          · rw [lns_line _ h10] at hrun
            have HRUN := Lib.hid (show (lns s ((L s).drop (pos + 1)) (pos + 1) (pos + 1)).map (fun p => ((acc ++ [s.extract st pos]) ++ p.1, p.2)) = lns s (L s) 0 0 by
              rw [← hrun, Option.map_map]; congr 1; funext p; simp)
            have hnx : ∀ ty, (Instr.next (.pointer (some ⟨w.heap.size, 0, none⟩)) true ty).run Tryz.prog wr = _ := fun ty => Lib.run_next_ascii_at wr w.heap.size s pos ty hit hp (by omega)
            clear hrun hK hown hit hsz
            rw [h10] at hnx
            generalize wr.iterAt w.heap.size s (pos + 1) = W at *
            have HIG := Lib.hid hIG
            have HIK := Lib.hid hIK
            have HIT := Lib.hid hIT
            clear hIG hIK hIT
            go_wp2_with (at_builtin; refine wpList_append_own _ rfl (.tmp 22) (.tmp 27) 42 rfl (w.heap.size + 1) 9 i0 (.string ⟨#[]⟩) 1 16 (by kernel_rfl) hi hz0 hz1 hz2 rfl (by decide) _ acc.length (acc.map Value.string) rfl (World.ownsRow.alloc HIG.out _) ⟨W.heap.size, 0, none⟩ 1 1 [.string (s.extract st pos)] rfl rfl one_cell one_cell' (by unfold maxLen; omega) (by omega) (by simp; omega) ?_; intro v' w1 hown' hgrow _)
            go_roundw
            case rel =>
              refine ⟨pos + 1, pos + 1, acc ++ [s.extract st pos], hp, Nat.le_refl _, by go_num, by simp; omega, ?_, grown_kept HIK.out HIG.out (by omega) hgrow, Gath.snoc hown', ?_, HRUN.out⟩
              · exact (grown_block HIG.out hgrow (by omega) (by omega)).trans HIT.out
              · have := grown_size hgrow; omega
            case measure => rw [iterPos_of ((grown_block HIG.out hgrow (by omega) (by omega)).trans HIT.out), iterPos_of HIT0.out]; omega
          · by_cases hok : (s[pos]'hp).toNat = 9 ∨ (32 ≤ (s[pos]'hp).toNat ∧ (s[pos]'hp).toNat ≤ 126)
            · rw [lns_ok _ h10 hok] at hrun
              have HRUN := Lib.hid hrun
              have hlt128 : (s[pos]'hp).toNat < 128 := by omega
              have hnx : ∀ ty, (Instr.next (.pointer (some ⟨w.heap.size, 0, none⟩)) true ty).run Tryz.prog wr = _ := fun ty => Lib.run_next_ascii_at wr w.heap.size s pos ty hit hp hlt128
              clear hrun hK hown hit hsz
              generalize wr.iterAt w.heap.size s (pos + 1) = W at *
              have HIG := Lib.hid hIG
              have HIK := Lib.hid hIK
              have HIT := Lib.hid hIT
              clear hIG hIK hIT
              generalize (s[pos]'hp).toNat = c at *
              have h10b : ((c : Int) == 10) = false := by rw [beq_eq_false_iff_ne]; omega
              rcases hok with rfl | ⟨k1, k2⟩
              · go_wp2_with fail
                go_roundw
                case rel => exact ⟨pos + 1, st, acc, hp, by omega, rfl, by omega, HIT.out, HIK.out, HIG.out, hIS, HRUN.out⟩
                case measure => rw [iterPos_of HIT.out, iterPos_of HIT0.out]; omega
              · by_cases h9 : c = 9
                · omega
                · have h9b : ((c : Int) == 9) = false := by rw [beq_eq_false_iff_ne]; omega
                  go_wp2_with fail
                  go_roundw
                  case rel => exact ⟨pos + 1, st, acc, hp, by omega, rfl, by omega, HIT.out, HIK.out, HIG.out, hIS, HRUN.out⟩
                  case measure => rw [iterPos_of HIT.out, iterPos_of HIT0.out]; omega
            · rw [lns_bad _ h10 hok] at hrun
              have HR := Lib.hid (show linR s = ([], 2) by rw [linR, if_neg hbig, ← hrun]; rfl)
              have hr : (Utf8.decode s pos).1 ≠ 10 ∧ (Utf8.decode s pos).1 ≠ 9 ∧ ((Utf8.decode s pos).1 < 32 ∨ 126 < (Utf8.decode s pos).1) := by
                by_cases ha : (s[pos]'hp).toNat < 128
                · rw [decode_ascii s pos hp ha]; simp only; omega
                · have := (decode_high s pos hp (by omega)).1; omega
              have hle := decode_le s pos
              have hnx : ∀ ty, (Instr.next (.pointer (some ⟨w.heap.size, 0, none⟩)) true ty).run Tryz.prog wr = _ := fun ty => Lib.run_next_any_at wr w.heap.size s pos ty hit hp
              have HK := Lib.hid (show Kept w (wr.iterAt w.heap.size s (pos + (Utf8.decode s pos).2)) from Lib.below_iterAt hK (Nat.le_refl _) _ _)
              clear hrun hK hown hit hsz hIK hIT hIS hIG hok h10
              generalize wr.iterAt w.heap.size s (pos + (Utf8.decode s pos).2) = W at *
              generalize (Utf8.decode s pos).1 = r at *
              obtain ⟨r1, r2, r3⟩ := hr
              have r1b : ((r : Int) == 10) = false := by rw [beq_eq_false_iff_ne]; omega
              have r2b : ((r : Int) == 9) = false := by rw [beq_eq_false_iff_ne]; omega
              rcases r3 with r3 | r3
              · go_wp2_with fail
                go_ret2
                rw [HR.out]
                exact ⟨_, rfl, Strs.nil _, HK.out⟩
              · have r4 : (32 : Int) ≤ r := by omega
                go_wp2_with fail
                go_ret2
                rw [HR.out]
                exact ⟨_, rfl, Strs.nil _, HK.out⟩
        · rw [List.drop_of_length_le (by rw [L_length]; omega), lns_end] at hrun
          have hrun' : lns s (L s) 0 0 = some (acc, st) := by rw [← hrun]; simp
          have hnx : ∀ ty, (Instr.next (.pointer (some ⟨w.heap.size, 0, none⟩)) true ty).run Tryz.prog wr = _ := fun ty => Lib.run_next_end_at wr w.heap.size s pos ty hit hp
          by_cases hes : st = s.size
          · have HR := Lib.hid (show linR s = (acc, 0) by rw [linR, if_neg hbig, hrun']; simp [hes])
            have HS := Lib.hid hown.strs
            have HK := Lib.hid hK
            clear hrun hrun' hown hit hK
            go_wp2_with fail
            go_ret2
            rw [HR.out]
            exact ⟨_, rfl, HS.out, HK.out⟩
          · have HR := Lib.hid (show linR s = ([], 2) by rw [linR, if_neg hbig, hrun']; simp [hes])
            have HK := Lib.hid hK
            have hesb : ((st : Int) == s.size) = false := by rw [beq_eq_false_iff_ne]; omega
            clear hrun hrun' hown hit hK
            go_wp2_with fail
            go_ret2
            rw [HR.out]
            exact ⟨_, rfl, Strs.nil _, HK.out⟩
end Go.Proofs.YtemejaomfbhldaaGreatDoor
