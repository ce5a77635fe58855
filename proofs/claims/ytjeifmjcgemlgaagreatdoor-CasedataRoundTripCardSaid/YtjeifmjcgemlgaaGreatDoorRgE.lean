/- What numtext.parse, ParseInt and ParseFixed compute. -/
import Derived.Test.YtjeifmjcgemlgaaGreatDoorRgD
import Derived.Test.YtjeifmjcgemlgaaGreatDoorShelf
import Derived.Test.YtjeifmjcgemlgaaGreatDoorRgA
namespace Go.Proofs.YtjeifmjcgemlgaaGreatDoor
open Go.RowKit

theorem ret_pair {r : Int × Int} {a b : Int} (h : r = (a, b)) : Ending.returned (.tuple #[.int .i64 a, .int .i64 b]) = .returned (.tuple #[.int .i64 r.1, .int .i64 r.2]) := by rw [h]
theorem hasMinus (l : List UInt8) : Lib.hasPrefix l [45] = negB l := by
  unfold Lib.hasPrefix negB
  cases l with
  | nil => rfl
  | cons c r => simp [List.isPrefixOf, Bool.beq_comm]
theorem cut_any (s : ByteArray) (w : World) :
    Calls Tryz.prog 23 #[.string s, .string ⟨#[45]⟩] w fun e w' => e = .returned (.tuple #[.string (bs (bodyL (L s))), .bool (negB (L s))]) ∧ w = w' := by
  refine (Tryz.strings_CutPrefix s ⟨#[45]⟩ w).mono ?_
  rintro e w' ⟨rfl, rfl⟩
  have h1 : Lib.hasPrefix s.data.toList [45] = negB (L s) := hasMinus (L s)
  refine ⟨?_, rfl⟩
  show Ending.returned (.tuple #[.string (bs (Lib.trimPrefix (L s) [45])), .bool (Lib.hasPrefix s.data.toList [45])]) = _
  rw [h1, Lib.trimPrefix, hasMinus, bodyL]
  cases negB (L s)
  · rfl
  · show Ending.returned (.tuple #[.string (bs ((L s).drop 1)), _]) = _
    rw [List.drop_one]; rfl
theorem isDigit_is (r : Int) (b : Bool) (h : (decide (48 ≤ r) && decide (r ≤ 57)) = b) (w : World) :
    Calls Tryz.prog 120 #[.int .i32 r] w fun e w' => e = .returned (.bool b) ∧ w = w' := by
  subst h
  by_cases h1 : 48 ≤ r
  · by_cases h2 : r ≤ 57
    all_goals
      go_enter Tryz.func120, Tryz.ntmps120
      go_wp2_with fail
      go_ret
      exact ⟨ret_bool (by simp [h1, h2]), rfl⟩
  · go_enter Tryz.func120, Tryz.ntmps120
    go_wp2_with fail
    go_ret
    exact ⟨ret_bool (by simp; omega), rfl⟩
theorem clamp_any (p : Int) (w : World) : Calls Tryz.prog 84 #[.int .i64 p] w fun e w' => e = .returned (.int .i64 (max 0 (min p 9))) ∧ w = w' := by
  go_enter Tryz.func84, Tryz.ntmps84
  go_wp2_with fail
  go_ret
  exact ⟨rfl, rfl⟩

/-- the first byte of a string of two bytes or more is no superfluous zero, or is one -/
theorem bad_cases (b : ByteArray) (k : Int) (hk : k ≤ b.size) : (badL (L b) k = true ∧ k < 1) ∨ (badL (L b) k = false ∧ k = 1) ∨
    ∃ h : 1 < k, (badL (L b) k = true ∧ (b[0]'(by omega)).toNat = 48) ∨ (badL (L b) k = false ∧ (b[0]'(by omega)).toNat ≠ 48) := by
  by_cases h1 : k < 1
  · exact .inl ⟨by simp [badL, h1], h1⟩
  · by_cases h2 : k = 1
    · exact .inr (.inl ⟨by simp [badL, h2], h2⟩)
    · have h3 : 1 < k := by omega
      refine .inr (.inr ⟨h3, ?_⟩)
      have hg := L_get b 0 (by omega)
      have hh : (L b).head? = some (b[0]'(by omega)) := by rw [← hg, List.head?_eq_getElem?]
      have key : (some (b[0]'(by omega)) == some (48 : UInt8)) = decide ((b[0]'(by omega)).toNat = 48) := by
        by_cases hc : (b[0]'(by omega)) = 48
        · rw [hc]; rfl
        · have : (b[0]'(by omega)).toNat ≠ 48 := fun e => hc (UInt8.toNat_inj.1 e)
          simp [hc, this]
      unfold badL
      rw [hh, key]
      by_cases hc : (b[0]'(by omega)).toNat = 48
      · exact .inl ⟨by simp [h3, hc], hc⟩
      · exact .inr ⟨by simp [h1, hc], hc⟩

theorem b10_le {v : Nat} (h : ¬ B10 < v) : v ≤ 461168601842738790 := by unfold B10 at h; omega
theorem rune_ascii {s : ByteArray} {pos : Nat} {hp : pos < s.size} {z : Nat} (hz : z < 128) (h : (s[pos]'hp).toNat = z) : Utf8.decode s pos = (z, 1) := by
  rw [decode_ascii s pos hp (by omega), h]
/-- a byte that is not the ASCII byte z: the rune read there is not z -/
theorem rune_not {s : ByteArray} {pos : Nat} (hp : pos < s.size) {z : Nat} (hz : z < 128) (h : (s[pos]'hp).toNat ≠ z) : (Utf8.decode s pos).1 ≠ z := by
  by_cases ha : (s[pos]'hp).toNat < 128
  · rw [decode_ascii s pos hp ha]; exact h
  · have := (decode_high s pos hp (by omega)).1
    omega
theorem rune_nodig {s : ByteArray} {pos : Nat} (hp : pos < s.size) (h : isDig (s[pos]'hp) = false) : (decide ((48 : Int) ≤ ((Utf8.decode s pos).1 : Int)) && decide (((Utf8.decode s pos).1 : Int) ≤ 57)) = false := by
  by_cases ha : (s[pos]'hp).toNat < 128
  · rw [decode_ascii s pos hp ha]
    have hd' : ¬ (48 ≤ s[pos].toNat ∧ s[pos].toNat ≤ 57) := fun h' => by rw [isDig_iff.2 h'] at h; cases h
    rw [Bool.and_eq_false_iff, decide_eq_false_iff_not, decide_eq_false_iff_not]; simp only; omega
  · have := (decode_high s pos hp (by omega)).1
    rw [Bool.and_eq_false_iff, decide_eq_false_iff_not, decide_eq_false_iff_not]; omega

set_option maxRecDepth 100000 in
set_option maxHeartbeats 8000000 in
theorem parse_num (s : ByteArray) (p : Int) (hs : s.size ≤ 1000000) (p0 : 0 ≤ p) (p9 : p ≤ 9) (w : World) :
    Calls Tryz.prog 106 #[.string s, .int .i64 p] w fun e w' => e = .returned (.tuple #[.int .i64 (parP (L s) p).1, .int .i64 (parP (L s) p).2]) ∧ Kept w w' := by
  have hbs : (bs (bodyL (L s))).size ≤ 1000000 := by
    rw [bs_size, bodyL]; split
    · rw [List.length_tail, L_length]; omega
    · rw [L_length]; exact hs
  have HP := Lib.hid (show parP (L s) p = bodyP (L (bs (bodyL (L s)))) (negB (L s)) p from rfl)
  have HC := Lib.hid (fun w => cut_any s w)
  generalize bs (bodyL (L s)) = b at *
  generalize negB (L s) = neg at *
  rcases (by omega : 0 < p ∨ p = 0) with hp | rfl
  · obtain ⟨k, hk⟩ : ∃ k, k = wholeI (L b) p := ⟨_, rfl⟩
    have hk' : k = (b.size : Int) - (p + 1) := by rw [hk, wholeI, if_pos hp, L_length]
    have hkb : k ≤ b.size := by omega
    rcases bad_cases b k hkb with ⟨hb, h1⟩ | ⟨hb, h1⟩ | ⟨h1, ⟨hb, h2⟩ | ⟨hb, h2⟩⟩
    · have HR := Lib.hid (show bodyP (L b) neg p = (0, 2) by rw [bodyP, ← hk, hb]; rfl)
      clear hb hk
      subst hk'
      go_enter Tryz.func106, Tryz.ntmps106
      go_wp2_with (go_at_call 23; refine (HC.out _).mono ?_; rintro e w' ⟨rfl, rfl⟩)
      go_ret2
      exact ⟨by rw [HP.out]; exact ret_pair HR.out, Kept.refl _⟩
    · have HB := Lib.hid (show bodyP (L b) neg p = finR neg (run (L b) k 0 false) by rw [bodyP, ← hk, hb]; rfl)
      clear hb hk
      first | have h3 : (((b[0]'(by omega)).toNat : Int) == 48) = false := by (rw [beq_eq_false_iff_ne]; omega)
            | skip
      go_enter Tryz.func106, Tryz.ntmps106
      go_wp2_with (go_at_call 23; refine (HC.out _).mono ?_; rintro e w' ⟨rfl, rfl⟩)
      go_loopw [9, 10] (fun n lg w' => ∃ (pos v : Nat) (g : Bool), pos ≤ b.size ∧ w' = w.iter b pos ∧ n = .int .i64 v ∧ lg = .bool g ∧ v ≤ 4611686018427387909 ∧ run ((L b).drop pos) (k - pos) v g = run (L b) k 0 false) (fun _ _ w' => b.size - w'.iterPos w.heap.size)
      case atStart => exact ⟨0, 0, false, Nat.zero_le _, rfl, rfl, rfl, by omega, by rw [List.drop_zero]; simp⟩
      case round =>
        obtain ⟨pos, v, g, hps, rfl, rfl, rfl, hv, hrun⟩ := hrel
        by_cases hlt : pos < b.size
        · rw [L_drop b pos hlt] at hrun
          by_cases hpt : (pos : Int) = k
          · by_cases hc : (b[pos]'hlt).toNat = 46
            · have HRUN := Lib.hid (show run ((L b).drop (pos + 1)) (k - ((pos + 1 : Nat) : Int)) v g = run (L b) k 0 false by
                rw [← hrun, show (b[pos]'hlt) = 46 from UInt8.toNat_inj.1 hc, run_point (by omega)]; congr 1; omega)
              clear hrun
              have hnx : ∀ ty, (Instr.next (.pointer (some ⟨w.heap.size, 0, none⟩)) true ty).run Tryz.prog (w.iter b pos) = _ := fun ty => run_next_ascii w b pos ty hlt (by omega)
              rw [hc] at hnx
              go_wp2_with fail
              go_roundw
              case rel => exact ⟨pos + 1, v, g, hlt, rfl, rfl, rfl, hv, HRUN.out⟩
              case measure => simp; omega
            · have HN := Lib.hid (show run (L b) k 0 false = none by
                rw [← hrun, run_nopoint (by omega) (fun e => hc (by rw [e]; rfl))])
              have hne := rune_not hlt (z := 46) (by omega) hc
              have hle := decode_le b pos
              have hnx : ∀ ty, (Instr.next (.pointer (some ⟨w.heap.size, 0, none⟩)) true ty).run Tryz.prog (w.iter b pos) = _ := fun ty => run_next_any w b pos ty hlt
              clear hrun
              generalize (Utf8.decode b pos).1 = r at *
              go_wp2_with fail
              go_ret2
              exact ⟨by rw [HP.out]; exact ret_pair (by rw [HB.out, HN.out]; rfl), (Kept.refl _).alloc _⟩
          · cases hd : isDig (b[pos]'hlt)
            · have HN := Lib.hid (show run (L b) k 0 false = none by
                rw [← hrun, run_nodig (by omega) hd])
              have hne := rune_nodig hlt hd
              have hle := decode_le b pos
              have hnx : ∀ ty, (Instr.next (.pointer (some ⟨w.heap.size, 0, none⟩)) true ty).run Tryz.prog (w.iter b pos) = _ := fun ty => run_next_any w b pos ty hlt
              clear hrun
              generalize (Utf8.decode b pos).1 = r at *
              have HNE := Lib.hid hne
              clear hne
              go_wp2_with (go_at_call 120; refine (isDigit_is _ false HNE.out _).mono ?_; rintro e w' ⟨rfl, rfl⟩)
              go_ret2
              exact ⟨by rw [HP.out]; exact ret_pair (by rw [HB.out, HN.out]; rfl), (Kept.refl _).alloc _⟩
            · obtain ⟨hd1, hd2⟩ := isDig_iff.1 hd
              have hnx : ∀ ty, (Instr.next (.pointer (some ⟨w.heap.size, 0, none⟩)) true ty).run Tryz.prog (w.iter b pos) = _ := fun ty => run_next_ascii w b pos ty hlt (by omega)
              have edv : dval (b[pos]'hlt) = (b[pos]'hlt).toNat - 48 := rfl
              have HNE := Lib.hid (show (decide ((48 : Int) ≤ (((b[pos]'hlt).toNat : Nat) : Int)) && decide ((((b[pos]'hlt).toNat : Nat) : Int) ≤ 57)) = true by simp; omega)
              have ek : k - (pos : Int) - 1 = k - ((pos + 1 : Nat) : Int) := by omega
              by_cases ho : g = true ∨ B10 < v
              · have HRUN := Lib.hid (show run ((L b).drop (pos + 1)) (k - ((pos + 1 : Nat) : Int)) v true = run (L b) k 0 false by
                  rw [← hrun, run_over (by omega) hd ho, ek])
                clear hrun edv
                generalize (b[pos]'hlt).toNat = c at *
                have ho' : g = true ∨ (g = false ∧ 461168601842738790 < v) := by
                  cases g
                  · exact .inr ⟨rfl, by rcases ho with h | h; cases h; exact h⟩
                  · exact .inl rfl
                clear ho
                rcases ho' with rfl | ⟨rfl, ho⟩
                all_goals
                  go_wp2_with (go_at_call 120; refine (isDigit_is _ true HNE.out _).mono ?_; rintro e w' ⟨rfl, rfl⟩)
                  go_roundw
                  case rel => exact ⟨pos + 1, v, true, hlt, rfl, rfl, rfl, hv, HRUN.out⟩
                  case measure => simp; omega
              · have hg : g = false := by
                  cases g
                  · rfl
                  · exact absurd (.inl rfl) ho
                subst hg
                have ho2 := b10_le (fun h => ho (.inr h))
                have HRUN := Lib.hid (show run ((L b).drop (pos + 1)) (k - ((pos + 1 : Nat) : Int)) (10 * v + ((b[pos]'hlt).toNat - 48)) (decide (BB < 10 * v + ((b[pos]'hlt).toNat - 48))) = run (L b) k 0 false by
                  rw [← hrun, run_dig (by omega) hd (fun h => ho (.inr h)), ek, edv])
                clear hrun edv ho
                generalize (b[pos]'hlt).toNat = c at *
                go_wp2_with (go_at_call 120; refine (isDigit_is _ true HNE.out _).mono ?_; rintro e w' ⟨rfl, rfl⟩)
                go_roundw
                case rel => exact ⟨pos + 1, 10 * v + (c - 48), _, hlt, rfl, by congr 1; omega, rfl, by omega, by rw [← HRUN.out]; congr 1; exact decide_eq_decide.2 (by unfold BB; omega)⟩
                case measure => simp; omega
        · rw [List.drop_of_length_le (by rw [L_length]; omega), run] at hrun
          have HN := Lib.hid hrun.symm
          clear hrun
          have hnx : ∀ ty, (Instr.next (.pointer (some ⟨w.heap.size, 0, none⟩)) true ty).run Tryz.prog (w.iter b pos) = _ := fun ty => run_next_end w b pos ty hlt
          have hz : v = 0 ∨ v ≠ 0 := by omega
          cases neg <;> cases g <;> rcases hz with rfl | hz
          all_goals
            have HF := Lib.hid (HB.out.trans (congrArg (finR _) HN.out))
            go_wp2_with fail
            go_ret2
            exact ⟨by rw [HP.out]; exact ret_pair (by rw [HF.out]; first | (simp [finR, signed]; done) | (simp [finR, signed, hz]; done)), (Kept.refl _).alloc _⟩
    · have HR := Lib.hid (show bodyP (L b) neg p = (0, 2) by rw [bodyP, ← hk, hb]; rfl)
      clear hb hk
      subst hk'
      go_enter Tryz.func106, Tryz.ntmps106
      go_wp2_with (go_at_call 23; refine (HC.out _).mono ?_; rintro e w' ⟨rfl, rfl⟩)
      go_ret2
      exact ⟨by rw [HP.out]; exact ret_pair HR.out, Kept.refl _⟩
    · have HB := Lib.hid (show bodyP (L b) neg p = finR neg (run (L b) k 0 false) by rw [bodyP, ← hk, hb]; rfl)
      clear hb hk
      first | have h3 : (((b[0]'(by omega)).toNat : Int) == 48) = false := by (rw [beq_eq_false_iff_ne]; omega)
            | skip
      go_enter Tryz.func106, Tryz.ntmps106
      go_wp2_with (go_at_call 23; refine (HC.out _).mono ?_; rintro e w' ⟨rfl, rfl⟩)
      go_loopw [9, 10] (fun n lg w' => ∃ (pos v : Nat) (g : Bool), pos ≤ b.size ∧ w' = w.iter b pos ∧ n = .int .i64 v ∧ lg = .bool g ∧ v ≤ 4611686018427387909 ∧ run ((L b).drop pos) (k - pos) v g = run (L b) k 0 false) (fun _ _ w' => b.size - w'.iterPos w.heap.size)
      case atStart => exact ⟨0, 0, false, Nat.zero_le _, rfl, rfl, rfl, by omega, by rw [List.drop_zero]; simp⟩
      case round =>
        obtain ⟨pos, v, g, hps, rfl, rfl, rfl, hv, hrun⟩ := hrel
        by_cases hlt : pos < b.size
        · rw [L_drop b pos hlt] at hrun
          by_cases hpt : (pos : Int) = k
          · by_cases hc : (b[pos]'hlt).toNat = 46
            · have HRUN := Lib.hid (show run ((L b).drop (pos + 1)) (k - ((pos + 1 : Nat) : Int)) v g = run (L b) k 0 false by
                rw [← hrun, show (b[pos]'hlt) = 46 from UInt8.toNat_inj.1 hc, run_point (by omega)]; congr 1; omega)
              clear hrun
              have hnx : ∀ ty, (Instr.next (.pointer (some ⟨w.heap.size, 0, none⟩)) true ty).run Tryz.prog (w.iter b pos) = _ := fun ty => run_next_ascii w b pos ty hlt (by omega)
              rw [hc] at hnx
              go_wp2_with fail
              go_roundw
              case rel => exact ⟨pos + 1, v, g, hlt, rfl, rfl, rfl, hv, HRUN.out⟩
              case measure => simp; omega
            · have HN := Lib.hid (show run (L b) k 0 false = none by
                rw [← hrun, run_nopoint (by omega) (fun e => hc (by rw [e]; rfl))])
              have hne := rune_not hlt (z := 46) (by omega) hc
              have hle := decode_le b pos
              have hnx : ∀ ty, (Instr.next (.pointer (some ⟨w.heap.size, 0, none⟩)) true ty).run Tryz.prog (w.iter b pos) = _ := fun ty => run_next_any w b pos ty hlt
              clear hrun
              generalize (Utf8.decode b pos).1 = r at *
              go_wp2_with fail
              go_ret2
              exact ⟨by rw [HP.out]; exact ret_pair (by rw [HB.out, HN.out]; rfl), (Kept.refl _).alloc _⟩
          · cases hd : isDig (b[pos]'hlt)
            · have HN := Lib.hid (show run (L b) k 0 false = none by
                rw [← hrun, run_nodig (by omega) hd])
              have hne := rune_nodig hlt hd
              have hle := decode_le b pos
              have hnx : ∀ ty, (Instr.next (.pointer (some ⟨w.heap.size, 0, none⟩)) true ty).run Tryz.prog (w.iter b pos) = _ := fun ty => run_next_any w b pos ty hlt
              clear hrun
              generalize (Utf8.decode b pos).1 = r at *
              have HNE := Lib.hid hne
              clear hne
              go_wp2_with (go_at_call 120; refine (isDigit_is _ false HNE.out _).mono ?_; rintro e w' ⟨rfl, rfl⟩)
              go_ret2
              exact ⟨by rw [HP.out]; exact ret_pair (by rw [HB.out, HN.out]; rfl), (Kept.refl _).alloc _⟩
            · obtain ⟨hd1, hd2⟩ := isDig_iff.1 hd
              have hnx : ∀ ty, (Instr.next (.pointer (some ⟨w.heap.size, 0, none⟩)) true ty).run Tryz.prog (w.iter b pos) = _ := fun ty => run_next_ascii w b pos ty hlt (by omega)
              have edv : dval (b[pos]'hlt) = (b[pos]'hlt).toNat - 48 := rfl
              have HNE := Lib.hid (show (decide ((48 : Int) ≤ (((b[pos]'hlt).toNat : Nat) : Int)) && decide ((((b[pos]'hlt).toNat : Nat) : Int) ≤ 57)) = true by simp; omega)
              have ek : k - (pos : Int) - 1 = k - ((pos + 1 : Nat) : Int) := by omega
              by_cases ho : g = true ∨ B10 < v
              · have HRUN := Lib.hid (show run ((L b).drop (pos + 1)) (k - ((pos + 1 : Nat) : Int)) v true = run (L b) k 0 false by
                  rw [← hrun, run_over (by omega) hd ho, ek])
                clear hrun edv
                generalize (b[pos]'hlt).toNat = c at *
                have ho' : g = true ∨ (g = false ∧ 461168601842738790 < v) := by
                  cases g
                  · exact .inr ⟨rfl, by rcases ho with h | h; cases h; exact h⟩
                  · exact .inl rfl
                clear ho
                rcases ho' with rfl | ⟨rfl, ho⟩
                all_goals
                  go_wp2_with (go_at_call 120; refine (isDigit_is _ true HNE.out _).mono ?_; rintro e w' ⟨rfl, rfl⟩)
                  go_roundw
                  case rel => exact ⟨pos + 1, v, true, hlt, rfl, rfl, rfl, hv, HRUN.out⟩
                  case measure => simp; omega
              · have hg : g = false := by
                  cases g
                  · rfl
                  · exact absurd (.inl rfl) ho
                subst hg
                have ho2 := b10_le (fun h => ho (.inr h))
                have HRUN := Lib.hid (show run ((L b).drop (pos + 1)) (k - ((pos + 1 : Nat) : Int)) (10 * v + ((b[pos]'hlt).toNat - 48)) (decide (BB < 10 * v + ((b[pos]'hlt).toNat - 48))) = run (L b) k 0 false by
                  rw [← hrun, run_dig (by omega) hd (fun h => ho (.inr h)), ek, edv])
                clear hrun edv ho
                generalize (b[pos]'hlt).toNat = c at *
                go_wp2_with (go_at_call 120; refine (isDigit_is _ true HNE.out _).mono ?_; rintro e w' ⟨rfl, rfl⟩)
                go_roundw
                case rel => exact ⟨pos + 1, 10 * v + (c - 48), _, hlt, rfl, by congr 1; omega, rfl, by omega, by rw [← HRUN.out]; congr 1; exact decide_eq_decide.2 (by unfold BB; omega)⟩
                case measure => simp; omega
        · rw [List.drop_of_length_le (by rw [L_length]; omega), run] at hrun
          have HN := Lib.hid hrun.symm
          clear hrun
          have hnx : ∀ ty, (Instr.next (.pointer (some ⟨w.heap.size, 0, none⟩)) true ty).run Tryz.prog (w.iter b pos) = _ := fun ty => run_next_end w b pos ty hlt
          have hz : v = 0 ∨ v ≠ 0 := by omega
          cases neg <;> cases g <;> rcases hz with rfl | hz
          all_goals
            have HF := Lib.hid (HB.out.trans (congrArg (finR _) HN.out))
            go_wp2_with fail
            go_ret2
            exact ⟨by rw [HP.out]; exact ret_pair (by rw [HF.out]; first | (simp [finR, signed]; done) | (simp [finR, signed, hz]; done)), (Kept.refl _).alloc _⟩
  · obtain ⟨k, hk⟩ : ∃ k, k = wholeI (L b) 0 := ⟨_, rfl⟩
    have hk' : k = (b.size : Int) := by rw [hk, wholeI, if_neg (by omega), L_length]
    have hkb : k ≤ b.size := by omega
    rcases bad_cases b k hkb with ⟨hb, h1⟩ | ⟨hb, h1⟩ | ⟨h1, ⟨hb, h2⟩ | ⟨hb, h2⟩⟩
    · have HR := Lib.hid (show bodyP (L b) neg 0 = (0, 2) by rw [bodyP, ← hk, hb]; rfl)
      clear hb hk
      subst hk'
      go_enter Tryz.func106, Tryz.ntmps106
      go_wp2_with (go_at_call 23; refine (HC.out _).mono ?_; rintro e w' ⟨rfl, rfl⟩)
      go_ret2
      exact ⟨by rw [HP.out]; exact ret_pair HR.out, Kept.refl _⟩
    · have HB := Lib.hid (show bodyP (L b) neg 0 = finR neg (run (L b) k 0 false) by rw [bodyP, ← hk, hb]; rfl)
      clear hb hk
      first | have h3 : (((b[0]'(by omega)).toNat : Int) == 48) = false := by (rw [beq_eq_false_iff_ne]; omega)
            | skip
      go_enter Tryz.func106, Tryz.ntmps106
      go_wp2_with (go_at_call 23; refine (HC.out _).mono ?_; rintro e w' ⟨rfl, rfl⟩)
      go_loopw [9, 10] (fun n lg w' => ∃ (pos v : Nat) (g : Bool), pos ≤ b.size ∧ w' = w.iter b pos ∧ n = .int .i64 v ∧ lg = .bool g ∧ v ≤ 4611686018427387909 ∧ run ((L b).drop pos) (k - pos) v g = run (L b) k 0 false) (fun _ _ w' => b.size - w'.iterPos w.heap.size)
      case atStart => exact ⟨0, 0, false, Nat.zero_le _, rfl, rfl, rfl, by omega, by rw [List.drop_zero]; simp⟩
      case round =>
        obtain ⟨pos, v, g, hps, rfl, rfl, rfl, hv, hrun⟩ := hrel
        by_cases hlt : pos < b.size
        · rw [L_drop b pos hlt] at hrun
          by_cases hpt : (pos : Int) = k
          · exfalso; omega
          · cases hd : isDig (b[pos]'hlt)
            · have HN := Lib.hid (show run (L b) k 0 false = none by
                rw [← hrun, run_nodig (by omega) hd])
              have hne := rune_nodig hlt hd
              have hle := decode_le b pos
              have hnx : ∀ ty, (Instr.next (.pointer (some ⟨w.heap.size, 0, none⟩)) true ty).run Tryz.prog (w.iter b pos) = _ := fun ty => run_next_any w b pos ty hlt
              clear hrun
              generalize (Utf8.decode b pos).1 = r at *
              have HNE := Lib.hid hne
              clear hne
              go_wp2_with (go_at_call 120; refine (isDigit_is _ false HNE.out _).mono ?_; rintro e w' ⟨rfl, rfl⟩)
              go_ret2
              exact ⟨by rw [HP.out]; exact ret_pair (by rw [HB.out, HN.out]; rfl), (Kept.refl _).alloc _⟩
            · obtain ⟨hd1, hd2⟩ := isDig_iff.1 hd
              have hnx : ∀ ty, (Instr.next (.pointer (some ⟨w.heap.size, 0, none⟩)) true ty).run Tryz.prog (w.iter b pos) = _ := fun ty => run_next_ascii w b pos ty hlt (by omega)
              have edv : dval (b[pos]'hlt) = (b[pos]'hlt).toNat - 48 := rfl
              have HNE := Lib.hid (show (decide ((48 : Int) ≤ (((b[pos]'hlt).toNat : Nat) : Int)) && decide ((((b[pos]'hlt).toNat : Nat) : Int) ≤ 57)) = true by simp; omega)
              have ek : k - (pos : Int) - 1 = k - ((pos + 1 : Nat) : Int) := by omega
              by_cases ho : g = true ∨ B10 < v
              · have HRUN := Lib.hid (show run ((L b).drop (pos + 1)) (k - ((pos + 1 : Nat) : Int)) v true = run (L b) k 0 false by
                  rw [← hrun, run_over (by omega) hd ho, ek])
                clear hrun edv
                generalize (b[pos]'hlt).toNat = c at *
                have ho' : g = true ∨ (g = false ∧ 461168601842738790 < v) := by
                  cases g
                  · exact .inr ⟨rfl, by rcases ho with h | h; cases h; exact h⟩
                  · exact .inl rfl
                clear ho
                rcases ho' with rfl | ⟨rfl, ho⟩
                all_goals
                  go_wp2_with (go_at_call 120; refine (isDigit_is _ true HNE.out _).mono ?_; rintro e w' ⟨rfl, rfl⟩)
                  go_roundw
                  case rel => exact ⟨pos + 1, v, true, hlt, rfl, rfl, rfl, hv, HRUN.out⟩
                  case measure => simp; omega
              · have hg : g = false := by
                  cases g
                  · rfl
                  · exact absurd (.inl rfl) ho
                subst hg
                have ho2 := b10_le (fun h => ho (.inr h))
                have HRUN := Lib.hid (show run ((L b).drop (pos + 1)) (k - ((pos + 1 : Nat) : Int)) (10 * v + ((b[pos]'hlt).toNat - 48)) (decide (BB < 10 * v + ((b[pos]'hlt).toNat - 48))) = run (L b) k 0 false by
                  rw [← hrun, run_dig (by omega) hd (fun h => ho (.inr h)), ek, edv])
                clear hrun edv ho
                generalize (b[pos]'hlt).toNat = c at *
                go_wp2_with (go_at_call 120; refine (isDigit_is _ true HNE.out _).mono ?_; rintro e w' ⟨rfl, rfl⟩)
                go_roundw
                case rel => exact ⟨pos + 1, 10 * v + (c - 48), _, hlt, rfl, by congr 1; omega, rfl, by omega, by rw [← HRUN.out]; congr 1; exact decide_eq_decide.2 (by unfold BB; omega)⟩
                case measure => simp; omega
        · rw [List.drop_of_length_le (by rw [L_length]; omega), run] at hrun
          have HN := Lib.hid hrun.symm
          clear hrun
          have hnx : ∀ ty, (Instr.next (.pointer (some ⟨w.heap.size, 0, none⟩)) true ty).run Tryz.prog (w.iter b pos) = _ := fun ty => run_next_end w b pos ty hlt
          have hz : v = 0 ∨ v ≠ 0 := by omega
          cases neg <;> cases g <;> rcases hz with rfl | hz
          all_goals
            have HF := Lib.hid (HB.out.trans (congrArg (finR _) HN.out))
            go_wp2_with fail
            go_ret2
            exact ⟨by rw [HP.out]; exact ret_pair (by rw [HF.out]; first | (simp [finR, signed]; done) | (simp [finR, signed, hz]; done)), (Kept.refl _).alloc _⟩
    · have HR := Lib.hid (show bodyP (L b) neg 0 = (0, 2) by rw [bodyP, ← hk, hb]; rfl)
      clear hb hk
      subst hk'
      go_enter Tryz.func106, Tryz.ntmps106
      go_wp2_with (go_at_call 23; refine (HC.out _).mono ?_; rintro e w' ⟨rfl, rfl⟩)
      go_ret2
      exact ⟨by rw [HP.out]; exact ret_pair HR.out, Kept.refl _⟩
    · have HB := Lib.hid (show bodyP (L b) neg 0 = finR neg (run (L b) k 0 false) by rw [bodyP, ← hk, hb]; rfl)
      clear hb hk
      first | have h3 : (((b[0]'(by omega)).toNat : Int) == 48) = false := by (rw [beq_eq_false_iff_ne]; omega)
            | skip
      go_enter Tryz.func106, Tryz.ntmps106
      go_wp2_with (go_at_call 23; refine (HC.out _).mono ?_; rintro e w' ⟨rfl, rfl⟩)
      go_loopw [9, 10] (fun n lg w' => ∃ (pos v : Nat) (g : Bool), pos ≤ b.size ∧ w' = w.iter b pos ∧ n = .int .i64 v ∧ lg = .bool g ∧ v ≤ 4611686018427387909 ∧ run ((L b).drop pos) (k - pos) v g = run (L b) k 0 false) (fun _ _ w' => b.size - w'.iterPos w.heap.size)
      case atStart => exact ⟨0, 0, false, Nat.zero_le _, rfl, rfl, rfl, by omega, by rw [List.drop_zero]; simp⟩
      case round =>
        obtain ⟨pos, v, g, hps, rfl, rfl, rfl, hv, hrun⟩ := hrel
        by_cases hlt : pos < b.size
        · rw [L_drop b pos hlt] at hrun
          by_cases hpt : (pos : Int) = k
          · exfalso; omega
          · cases hd : isDig (b[pos]'hlt)
            · have HN := Lib.hid (show run (L b) k 0 false = none by
                rw [← hrun, run_nodig (by omega) hd])
              have hne := rune_nodig hlt hd
              have hle := decode_le b pos
              have hnx : ∀ ty, (Instr.next (.pointer (some ⟨w.heap.size, 0, none⟩)) true ty).run Tryz.prog (w.iter b pos) = _ := fun ty => run_next_any w b pos ty hlt
              clear hrun
              generalize (Utf8.decode b pos).1 = r at *
              have HNE := Lib.hid hne
              clear hne
              go_wp2_with (go_at_call 120; refine (isDigit_is _ false HNE.out _).mono ?_; rintro e w' ⟨rfl, rfl⟩)
              go_ret2
              exact ⟨by rw [HP.out]; exact ret_pair (by rw [HB.out, HN.out]; rfl), (Kept.refl _).alloc _⟩
            · obtain ⟨hd1, hd2⟩ := isDig_iff.1 hd
              have hnx : ∀ ty, (Instr.next (.pointer (some ⟨w.heap.size, 0, none⟩)) true ty).run Tryz.prog (w.iter b pos) = _ := fun ty => run_next_ascii w b pos ty hlt (by omega)
              have edv : dval (b[pos]'hlt) = (b[pos]'hlt).toNat - 48 := rfl
              have HNE := Lib.hid (show (decide ((48 : Int) ≤ (((b[pos]'hlt).toNat : Nat) : Int)) && decide ((((b[pos]'hlt).toNat : Nat) : Int) ≤ 57)) = true by simp; omega)
              have ek : k - (pos : Int) - 1 = k - ((pos + 1 : Nat) : Int) := by omega
              by_cases ho : g = true ∨ B10 < v
              · have HRUN := Lib.hid (show run ((L b).drop (pos + 1)) (k - ((pos + 1 : Nat) : Int)) v true = run (L b) k 0 false by
                  rw [← hrun, run_over (by omega) hd ho, ek])
                clear hrun edv
                generalize (b[pos]'hlt).toNat = c at *
                have ho' : g = true ∨ (g = false ∧ 461168601842738790 < v) := by
                  cases g
                  · exact .inr ⟨rfl, by rcases ho with h | h; cases h; exact h⟩
                  · exact .inl rfl
                clear ho
                rcases ho' with rfl | ⟨rfl, ho⟩
                all_goals
                  go_wp2_with (go_at_call 120; refine (isDigit_is _ true HNE.out _).mono ?_; rintro e w' ⟨rfl, rfl⟩)
                  go_roundw
                  case rel => exact ⟨pos + 1, v, true, hlt, rfl, rfl, rfl, hv, HRUN.out⟩
                  case measure => simp; omega
              · have hg : g = false := by
                  cases g
                  · rfl
                  · exact absurd (.inl rfl) ho
                subst hg
                have ho2 := b10_le (fun h => ho (.inr h))
                have HRUN := Lib.hid (show run ((L b).drop (pos + 1)) (k - ((pos + 1 : Nat) : Int)) (10 * v + ((b[pos]'hlt).toNat - 48)) (decide (BB < 10 * v + ((b[pos]'hlt).toNat - 48))) = run (L b) k 0 false by
                  rw [← hrun, run_dig (by omega) hd (fun h => ho (.inr h)), ek, edv])
                clear hrun edv ho
                generalize (b[pos]'hlt).toNat = c at *
                go_wp2_with (go_at_call 120; refine (isDigit_is _ true HNE.out _).mono ?_; rintro e w' ⟨rfl, rfl⟩)
                go_roundw
                case rel => exact ⟨pos + 1, 10 * v + (c - 48), _, hlt, rfl, by congr 1; omega, rfl, by omega, by rw [← HRUN.out]; congr 1; exact decide_eq_decide.2 (by unfold BB; omega)⟩
                case measure => simp; omega
        · rw [List.drop_of_length_le (by rw [L_length]; omega), run] at hrun
          have HN := Lib.hid hrun.symm
          clear hrun
          have hnx : ∀ ty, (Instr.next (.pointer (some ⟨w.heap.size, 0, none⟩)) true ty).run Tryz.prog (w.iter b pos) = _ := fun ty => run_next_end w b pos ty hlt
          have hz : v = 0 ∨ v ≠ 0 := by omega
          cases neg <;> cases g <;> rcases hz with rfl | hz
          all_goals
            have HF := Lib.hid (HB.out.trans (congrArg (finR _) HN.out))
            go_wp2_with fail
            go_ret2
            exact ⟨by rw [HP.out]; exact ret_pair (by rw [HF.out]; first | (simp [finR, signed]; done) | (simp [finR, signed, hz]; done)), (Kept.refl _).alloc _⟩
end Go.Proofs.YtjeifmjcgemlgaaGreatDoor
/- What the reference's parsers of numbers compute. -/
namespace Go.Proofs.YtjeifmjcgemlgaaGreatDoor
open Go.RowKit

def adB (l : List UInt8) : Bool := decide (0 < l.length) && digB l
def numR (l : List UInt8) (neg : Bool) : Int × Int := if 19 < l.length then (0, 3) else if BB < val l 0 then (0, 3) else (signed neg (val l 0), 0)
def refI (l : List UInt8) : Int × Int :=
  if adB (bodyL l) = false ∨ badL (bodyL l) (bodyL l).length = true ∨ (negB l = true ∧ bodyL l = [48]) then (0, 2) else numR (bodyL l) (negB l)
def strip : List UInt8 → List UInt8
  | c :: d :: r => if c = 48 then strip (d :: r) else c :: d :: r
  | l => l

theorem key_byte (c : UInt8) (z : Nat) (hz : z < 256) : (some c == some (UInt8.ofNat z)) = decide (c.toNat = z) := by
  have e : (UInt8.ofNat z).toNat = z := by rw [UInt8.toNat_ofNat']; omega
  by_cases hc : c = UInt8.ofNat z
  · rw [hc, e]; simp
  · have : c.toNat ≠ z := fun h => hc (UInt8.toNat_inj.1 (by rw [h, e]))
    simp [hc, this]
theorem ext_size01 (s : ByteArray) (a b : Nat) (h : b ≤ s.size) : (s.extract a b).size = b - a := by
  rw [ByteArray.size_extract]; omega
theorem L_head (s : ByteArray) (h : 0 < s.size) : (L s).head? = some (s[0]'h) := by rw [← L_get s 0 h, List.head?_eq_getElem?]

theorem val_19 {l : List UInt8} (h : l.all isDig = true) (hl : l.length ≤ 19) : val l 0 < 10000000000000000000 :=
  Nat.lt_of_lt_of_le (val_lt h) (Nat.pow_le_pow_right (by decide) hl)
theorem val_18 {l : List UInt8} (h : l.all isDig = true) (hl : l.length ≤ 18) : val l 0 < 1000000000000000000 :=
  Nat.lt_of_lt_of_le (val_lt h) (Nat.pow_le_pow_right (by decide) hl)

end Go.Proofs.YtjeifmjcgemlgaaGreatDoor
/- What the reference's ParseInt computes. -/
namespace Go.Proofs.YtjeifmjcgemlgaaGreatDoor
open Go.RowKit

theorem isZ_iff (b : ByteArray) : (b.toList == [48]) = decide (L b = [48]) := by
  rw [toList_L]
  by_cases h : L b = [48]
  · rw [h]; rfl
  · simp [h]

end Go.Proofs.YtjeifmjcgemlgaaGreatDoor
/- What the reference's ParseFixed computes. -/
namespace Go.Proofs.YtjeifmjcgemlgaaGreatDoor
open Go.RowKit

theorem strip_short {l : List UInt8} (h : l.length ≤ 1) : strip l = l := by
  match l, h with
  | [], _ => rfl
  | [c], _ => rfl
theorem strip_head {l : List UInt8} (h : l.head? ≠ some 48) : strip l = l := by
  match l with
  | [] => rfl
  | [c] => rfl
  | c :: d :: r =>
    rw [strip, if_neg (fun e => h (by rw [e]; rfl))]
theorem strip_zero {l : List UInt8} (h : l.head? = some 48) (h1 : 1 < l.length) : strip l = strip (l.drop 1) := by
  match l, h1 with
  | c :: d :: r, _ =>
    have e : c = 48 := Option.some.inj h
    rw [strip, if_pos e]; rfl

def okF (b : List UInt8) (k : Nat) : Bool := (b[k]? == some 46) && (adB (b.take k) && (adB (b.drop (k + 1)) && !(badL b k)))
def finF (t : List UInt8) (neg : Bool) : Int × Int := if neg = true ∧ strip t = [48] then (0, 2) else numR (strip t) neg
def refF (l : List UInt8) (q : Int) : Int × Int :=
  if ((bodyL l).length : Int) - q - 1 < 1 then (0, 2) else
  if okF (bodyL l) (((bodyL l).length : Int) - q - 1).toNat then finF ((bodyL l).take (((bodyL l).length : Int) - q - 1).toNat ++ (bodyL l).drop ((((bodyL l).length : Int) - q - 1).toNat + 1)) (negB l) else (0, 2)
def refP (l : List UInt8) (p : Int) : Int × Int := if min (max p 0) 9 = 0 then refI l else refF l (min (max p 0) 9)

theorem digB_take {l : List UInt8} (h : digB l = true) (k : Nat) : digB (l.drop k) = true := by
  unfold digB at *
  rw [List.all_eq_true] at *
  exact fun x hx => h x (List.mem_of_mem_drop hx)
theorem adB_dig {l : List UInt8} (h : adB l = true) : 0 < l.length ∧ digB l = true := by
  unfold adB at h
  rw [Bool.and_eq_true, decide_eq_true_eq] at h
  exact h


end Go.Proofs.YtjeifmjcgemlgaaGreatDoor
/- The parser and the reference's parser answer alike. No program stands here. -/
namespace Go.Proofs.YtjeifmjcgemlgaaGreatDoor

theorem adB_iff {l : List UInt8} : adB l = true ↔ l ≠ [] ∧ l.all isDig = true := by
  unfold adB digB
  rw [Bool.and_eq_true, decide_eq_true_eq, List.length_pos_iff]
theorem val_big {l : List UInt8} (hd : l.all isDig = true) (hl : 19 < l.length) (hh : l.head? ≠ some 48) : BB < val l 0 := by
  have h1 := val_pos hd hh (by intro e; rw [e] at hl; simp at hl)
  have h2 : 10 ^ 19 ≤ 10 ^ (l.length - 1) := Nat.pow_le_pow_right (by decide) (by omega)
  unfold BB
  omega
theorem finR_true (neg : Bool) (v : Nat) : finR neg (some (v, true)) = (0, 3) := by simp [finR]
theorem finR_false {neg : Bool} {v : Nat} (h : ¬ (neg = true ∧ v = 0)) : finR neg (some (v, false)) = (signed neg v, 0) := by
  show (if neg = true ∧ v = 0 ∧ false = false then _ else _) = _
  rw [if_neg (fun h' => h ⟨h'.1, h'.2.1⟩)]; rfl
/-- the loop's answer for digits, as the reference gives it -/
theorem fin_num {l : List UInt8} (neg : Bool) (h19 : 19 < l.length → BB < val l 0) (hz : ¬ (neg = true ∧ val l 0 = 0)) :
    finR neg (some (acc l 0 false)) = numR l neg := by
  have h := acc_zero l
  have hn : numR l neg = if BB < val l 0 then (0, 3) else (signed neg (val l 0), 0) := by
    unfold numR
    by_cases h' : 19 < l.length
    · rw [if_pos h', if_pos (h19 h')]
    · rw [if_neg h']
  rw [hn]
  generalize acc l 0 false = t at *
  obtain ⟨v, g⟩ := t
  dsimp only at h
  rcases h with ⟨rfl, rfl, h3⟩ | ⟨rfl, h2⟩
  · rw [if_neg (by omega)]
    exact finR_false hz
  · rw [if_pos h2]
    exact finR_true _ _
theorem fin_zero {l : List UInt8} (h : val l 0 = 0) : finR true (some (acc l 0 false)) = (0, 2) := by
  have h' := acc_zero l
  rw [h] at h'
  generalize acc l 0 false = t at *
  obtain ⟨v, g⟩ := t
  dsimp only at h'
  rcases h' with ⟨rfl, rfl, h3⟩ | ⟨rfl, h2⟩
  · rfl
  · unfold BB at h2; omega
theorem val_zero_lead {l : List UInt8} (hd : l.all isDig = true) (hl : lead l = true) (hn : l ≠ []) (h : val l 0 = 0) : l = [48] := by
  have := decDigits_val l hd hl hn
  rw [h] at this
  rw [← this, Lib.decDigits, dif_pos (by decide)]; rfl
theorem badL_lead {l : List UInt8} (hn : l ≠ []) (h : badL l l.length = false) : lead l = true := by
  have hp := List.length_pos_iff.2 hn
  rw [lead_iff]
  unfold badL at h
  rw [Bool.or_eq_false_iff, Bool.and_eq_false_iff] at h
  rcases h.2 with h2 | h2
  · left
    have : ¬ (1 < (l.length : Int)) := by simpa using h2
    omega
  · right
    intro e
    rw [e] at h2
    exact absurd h2 (by decide)

theorem parP_refI (l : List UInt8) : parP l 0 = refI l := by
  unfold parP refI bodyP
  generalize bodyL l = b
  generalize negB l = neg
  have hw : wholeI b 0 = b.length := by rw [wholeI, if_neg (by omega)]
  rw [hw, run_all b _ 0 false (.inr (Int.le_refl _))]
  cases hb : badL b b.length
  · rw [if_neg (by simp)]
    cases hd : b.all isDig
    · rw [if_neg (by decide), if_pos (.inl (by unfold adB digB; rw [hd]; simp))]; rfl
    · have hne : b ≠ [] := by
        intro e
        rw [e] at hb
        exact absurd hb (by decide)
      have hle := badL_lead hne hb
      have had : adB b = true := adB_iff.2 ⟨hne, hd⟩
      rw [if_pos rfl]
      by_cases hz : neg = true ∧ val b 0 = 0
      · obtain ⟨rfl, hz⟩ := hz
        have e := val_zero_lead hd hle hne hz
        rw [fin_zero hz, if_pos (.inr (.inr ⟨rfl, e⟩))]
      · rw [if_neg (by
          rintro (h | h | ⟨h1, h2⟩)
          · rw [had] at h; cases h
          · cases h
          · exact hz ⟨h1, by rw [h2]; decide⟩)]
        refine fin_num neg (fun h19 => val_big hd h19 ?_) hz
        rcases lead_iff.1 hle with h | h
        · omega
        · exact h
  · rw [if_pos rfl, if_pos (.inr (.inl rfl))]

theorem strip_val (l : List UInt8) : val (strip l) 0 = val l 0 := by
  induction l with
  | nil => rfl
  | cons c r ih =>
    cases r with
    | nil => rfl
    | cons d r =>
      rw [strip]
      split
      · rename_i h
        rw [ih, h]; rfl
      · rfl
theorem strip_all {l : List UInt8} (h : l.all isDig = true) : (strip l).all isDig = true := by
  induction l with
  | nil => exact h
  | cons c r ih =>
    cases r with
    | nil => exact h
    | cons d r =>
      rw [strip]
      split
      · exact ih (by rw [List.all_cons, Bool.and_eq_true] at h; exact h.2)
      · exact h
theorem strip_ne {l : List UInt8} (h : l ≠ []) : strip l ≠ [] := by
  induction l with
  | nil => exact absurd rfl h
  | cons c r ih =>
    cases r with
    | nil => exact h
    | cons d r =>
      rw [strip]
      split
      · exact ih (by simp)
      · exact h
theorem strip_lead (l : List UInt8) : strip l = [] ∨ lead (strip l) = true := by
  induction l with
  | nil => exact .inl rfl
  | cons c r ih =>
    cases r with
    | nil => exact .inr rfl
    | cons d r =>
      rw [strip]
      split
      · exact ih
      · rename_i h
        exact .inr (lead_iff.2 (.inr (by simpa using h)))
theorem finR_acc {a b : List UInt8} (h : val a 0 = val b 0) (neg : Bool) : finR neg (some (acc a 0 false)) = finR neg (some (acc b 0 false)) := by
  have h1 := acc_zero a
  have h2 := acc_zero b
  rw [h] at h1
  generalize acc a 0 false = t at *
  generalize acc b 0 false = u at *
  obtain ⟨v, g⟩ := t
  obtain ⟨v', g'⟩ := u
  dsimp only at h1 h2
  rcases h1 with ⟨rfl, rfl, h3⟩ | ⟨rfl, h3⟩ <;> rcases h2 with ⟨rfl, rfl, h4⟩ | ⟨rfl, h4⟩
  · rfl
  · omega
  · omega
  · rw [finR_true, finR_true]
theorem parP_refF (l : List UInt8) (q : Int) (q1 : 1 ≤ q) : parP l q = refF l q := by
  unfold parP refF bodyP
  generalize bodyL l = b
  generalize negB l = neg
  have hw : wholeI b q = (b.length : Int) - q - 1 := by rw [wholeI, if_pos (by omega)]; omega
  rw [hw]
  by_cases hk : (b.length : Int) - q - 1 < 1
  · rw [if_pos hk, if_pos (by unfold badL; simp [hk])]
  · rw [if_neg hk]
    obtain ⟨k, hK⟩ : ∃ k : Nat, (b.length : Int) - q - 1 = (k : Int) := ⟨((b.length : Int) - q - 1).toNat, by omega⟩
    have hkl : k < b.length := by omega
    have hkn : ((k : Int)).toNat = k := by omega
    rw [hK, hkn]
    have hb : b = b.take k ++ b[k] :: b.drop (k + 1) := by
      rw [← List.drop_eq_getElem_cons hkl, List.take_append_drop]
    have hlen : (b.take k).length = k := by rw [List.length_take]; omega
    have hrun : run b (k : Int) 0 false = if (b.take k).all isDig && (b[k] == 46 && (b.drop (k + 1)).all isDig) then some (acc (b.take k ++ b.drop (k + 1)) 0 false) else none := by
      have := run_at (b.take k) b[k] (b.drop (k + 1)) 0 false
      rw [hlen, ← hb] at this
      exact this
    have hg : (b[k]? == some 46) = (b[k] == 46) := by rw [List.getElem?_eq_getElem hkl]; rfl
    have hne1 : b.take k ≠ [] := by
      intro e; rw [e] at hlen; simp at hlen; omega
    have hne2 : b.drop (k + 1) ≠ [] := by
      intro e
      have := congrArg List.length e
      rw [List.length_drop] at this; simp at this; omega
    have had : ∀ x : List UInt8, x ≠ [] → adB x = x.all isDig := by
      intro x hx
      unfold adB digB
      rw [decide_eq_true (List.length_pos_iff.2 hx)]; rfl
    have hok : okF b k = (((b.take k).all isDig && (b[k] == 46 && (b.drop (k + 1)).all isDig)) && !(badL b k)) := by
      unfold okF
      rw [hg, had _ hne1, had _ hne2]
      cases (b[k] == 46) <;> cases (b.take k).all isDig <;> cases (b.drop (k + 1)).all isDig <;> simp
    rw [hok, hrun]
    cases hbad : badL b k
    · rw [if_neg (by decide)]
      cases hgood : ((b.take k).all isDig && (b[k] == 46 && (b.drop (k + 1)).all isDig))
      · simp [finR]
      · simp only [Bool.not_false, Bool.and_true, if_true]
        rw [Bool.and_eq_true, Bool.and_eq_true] at hgood
        obtain ⟨d1, _, d2⟩ := hgood
        have hT : (b.take k ++ b.drop (k + 1)).all isDig = true := by rw [List.all_append, d1, d2]; rfl
        have hTn : b.take k ++ b.drop (k + 1) ≠ [] := by simp [hne1]
        generalize b.take k ++ b.drop (k + 1) = T at *
        rw [finR_acc (strip_val T).symm]
        have s1 := strip_all hT
        have s2 := strip_ne hTn
        have s3 : lead (strip T) = true := (strip_lead T).resolve_left s2
        unfold finF
        generalize strip T = S at *
        by_cases hz : neg = true ∧ val S 0 = 0
        · obtain ⟨rfl, hz⟩ := hz
          rw [fin_zero hz, if_pos ⟨rfl, val_zero_lead s1 s3 s2 hz⟩]
        · rw [if_neg (fun h => hz ⟨h.1, by rw [h.2]; decide⟩)]
          refine fin_num neg (fun h19 => val_big s1 h19 ?_) hz
          rcases lead_iff.1 s3 with h | h
          · omega
          · exact h
    · simp
/-- both parsers, for any number of places -/
theorem parP_refP (l : List UInt8) (p : Int) : parP l (max 0 (min p 9)) = refP l p := by
  have e : max 0 (min p 9) = min (max p 0) 9 := by omega
  rw [e, refP]
  by_cases h : min (max p 0) 9 = 0
  · rw [if_pos h, h]; exact parP_refI l
  · rw [if_neg h]; exact parP_refF l _ (by omega)
end Go.Proofs.YtjeifmjcgemlgaaGreatDoor
/- What numtext.FormatFixed computes. -/
namespace Go.Proofs.YtjeifmjcgemlgaaGreatDoor
open Go.RowKit

def absD (n : Int) : List UInt8 := Lib.decDigits n.natAbs
def sgn (n : Int) : List UInt8 := if n < 0 then [45] else []
def padD (n : Int) (q : Nat) : List UInt8 := List.replicate (q + 1 - (absD n).length) 48 ++ absD n
def fixT (n : Int) (q : Nat) : List UInt8 := sgn n ++ ((padD n q).take ((padD n q).length - q) ++ ([46] ++ (padD n q).drop ((padD n q).length - q)))
/-- the text of a number with q places -/
def fixS (n q : Int) : ByteArray := if q = 0 then numS n else bs (fixT n q.toNat)
theorem absD_len (n : Int) (h0 : -9223372036854775808 ≤ n) (h1 : n ≤ 9223372036854775807) : (absD n).length ≤ 20 := decDigits_len _ (by omega)
theorem numS_neg {n : Int} (h : n < 0) : numS n = bs (45 :: absD n) := by rw [numS, Lib.itoa, if_pos h]; rfl
theorem numS_pos {n : Int} (h : ¬ n < 0) : numS n = bs (absD n) := by rw [numS, Lib.itoa, if_neg h, absD, show n.natAbs = n.toNat by omega]
theorem fix_end (n : Int) (q k : Nat) (T : ByteArray) (hT : L T = padD n q) (hk : T.size = k + q) (g : ByteArray) (hg : L g = sgn n) :
    g ++ T.extract 0 k ++ ⟨#[46]⟩ ++ T.extract k T.size = bs (fixT n q) := by
  have hl : (padD n q).length = k + q := by rw [← hT, L_length, hk]
  rw [← L_inj, L_append, L_append, L_append, L_extract, L_extract, L_bs, hg, hT, fixT, hl, Nat.add_sub_cancel, List.drop_zero, Nat.sub_zero]
  rw [List.take_of_length_le (l := (padD n q).drop k) (by rw [List.length_drop, hl, hk]; omega)]
  simp [L]

set_option maxRecDepth 100000 in
set_option maxHeartbeats 4000000 in
theorem formatFixed_zero (n p : Int) (hq : max 0 (min p 9) = 0) (h0 : -9223372036854775808 ≤ n) (h1 : n ≤ 9223372036854775807) (w : World) (hP : Pow w) :
    Calls Tryz.prog 59 #[.int .i64 n, .int .i64 p] w fun e w' => e = .returned (.string (numS n)) ∧ Kept w w' := by
  have HQ := Lib.hid (fun w => (hq ▸ clamp_any p w : Calls Tryz.prog 84 #[.int .i64 p] w fun e w' => e = .returned (.int .i64 0) ∧ w = w'))
  clear hq
  go_enter Tryz.func59, Tryz.ntmps59
  go_wp2_with (first
    | (go_at_call 84; refine (HQ.out _).mono ?_; rintro e w' ⟨rfl, rfl⟩)
    | (go_at_call 56; refine (fmtInt_any n h0 h1 _ hP).mono ?_; rintro e w' ⟨rfl, hk⟩))
  go_ret
  exact ⟨rfl, hk⟩

set_option maxRecDepth 100000 in
set_option maxHeartbeats 4000000 in
theorem formatFixed_pos (n p q : Int) (hq : max 0 (min p 9) = q) (q1 : 1 ≤ q) (h0 : -9223372036854775808 ≤ n) (h1 : n ≤ 9223372036854775807) (w : World) (hP : Pow w) :
    Calls Tryz.prog 59 #[.int .i64 n, .int .i64 p] w fun e w' => e = .returned (.string (bs (fixT n q.toNat))) ∧ Kept w w' := by
  have q9 : q ≤ 9 := by omega
  have HQ := Lib.hid (fun w => (hq ▸ clamp_any p w : Calls Tryz.prog 84 #[.int .i64 p] w fun e w' => e = .returned (.int .i64 q) ∧ w = w'))
  clear hq
  have HF := Lib.hid (fun w hP => fmtInt_any n h0 h1 w hP)
  have hl := absD_len n h0 h1
  have hp : 0 < (absD n).length := List.length_pos_iff.2 (decDigits_ne _)
  obtain ⟨X, hX⟩ : ∃ X, X = bs (absD n) := ⟨_, rfl⟩
  have zX : X.size = (absD n).length := by rw [hX, bs_size]
  have HX := Lib.hid (show L X = absD n by rw [hX]; rfl)
  by_cases hlt : (absD n).length ≤ q.toNat
  · have HZ := Lib.hid (fun w => zeros_any (q + 1 - X.size) (by omega) (by omega) w)
    obtain ⟨Z, hZ⟩ : ∃ Z, Z = bs (List.replicate (q + 1 - (X.size : Int)).toNat 48) := ⟨_, rfl⟩
    have zZ : Z.size = q.toNat + 1 - X.size := by rw [hZ, bs_size, List.length_replicate]; omega
    obtain ⟨T, hT⟩ : ∃ T, Z ++ X = T := ⟨_, rfl⟩
    have zT : T.size = 1 + q.toNat := by rw [← hT, ByteArray.size_append]; omega
    have HT := Lib.hid (show L T = padD n q.toNat by
      rw [← hT, L_append, HX.out, hZ, L_bs, padD, show (q + 1 - (X.size : Int)).toNat = q.toNat + 1 - (absD n).length by omega])
    have zX' : (X.size : Int) ≤ q := by omega
    have zX2 : X.size ≤ 9 := by omega
    have zZ2 : Z.size ≤ 10 := by omega
    have hd1 : (1 : Int) ≤ T.size := by omega
    have hK' : (Z.size : Int) + X.size - q = 1 := by omega
    have m1 : ¬ (9223372036854775807 < 1 + (T.extract 0 1).size) := by rw [ext_size01 T 0 1 (by omega)]; omega
    have m2 : ¬ (9223372036854775807 < 1 + (T.extract 0 1).size + 1) := by rw [ext_size01 T 0 1 (by omega)]; omega
    have m3 : ¬ (9223372036854775807 < 1 + (T.extract 0 1).size + 1 + (T.extract 1 T.size).size) := by rw [ext_size01 T 0 1 (by omega), ext_size01 T 1 T.size (Nat.le_refl _)]; omega
    by_cases hn : n < 0
    · have hN := numS_neg hn
      have zN : (numS n).size = X.size + 1 := by rw [hN, bs_size, zX]; rfl
      have hE : (numS n).extract 1 (X.size + 1) = X := by
        rw [← zN, ← L_inj, L_extract, HX.out, hN, L_bs, bs_size]; simp
      have HE := Lib.hid (fix_end n q.toNat 1 T HT.out zT ⟨#[45]⟩ (by rw [sgn, if_pos hn]; rfl))
      rw [← hZ] at HZ
      have zTq : (T.size : Int) - q = 1 := by omega
      have zT2 : T.size ≤ 20 := by omega
      clear hN hX zX hZ hl hp zZ zT hK'
      generalize numS n = N at *
      go_enter Tryz.func59, Tryz.ntmps59
      go_wp2_with (first
        | (go_at_call 84; refine (HQ.out _).mono ?_; rintro e w' ⟨rfl, rfl⟩)
        | (go_at_call 56; refine (HF.out _ hP).mono ?_; rintro e w' ⟨rfl, hk⟩)
        | (go_at_call 57; refine (HZ.out _).mono ?_; rintro e w2 ⟨rfl, hk2⟩))
      have hkk := hk.trans hk2
      clear zX2 zZ2 zN
      refine wp_region_kept (by kernel_rfl) (by kernel_rfl) ?_
      repeat (go_big_quiet_step (fail))
      refine wpQuiet_nil ?_
      rintro _ ⟨⟨wx, hx⟩, rfl⟩
      go_wp2_with fail
      go_ret
      exact ⟨ret_str HE.out, hkk.trans hx⟩
    · have hNX : numS n = X := (numS_pos hn).trans hX.symm
      have HE := Lib.hid (fix_end n q.toNat 1 T HT.out zT ⟨#[]⟩ (by rw [sgn, if_neg hn]; rfl))
      rw [← hZ] at HZ
      have zTq : (T.size : Int) - q = 1 := by omega
      have zT2 : T.size ≤ 20 := by omega
      have m0 : ¬ (9223372036854775807 < (T.extract 0 1).size) := by omega
      have m4 : ¬ (9223372036854775807 < (T.extract 0 1).size + 1) := by omega
      have m5 : ¬ (9223372036854775807 < (T.extract 0 1).size + 1 + (T.extract 1 T.size).size) := by omega
      clear hX zX hZ hl hp zZ zT hK' m1 m2 m3
      go_enter Tryz.func59, Tryz.ntmps59
      go_wp2_with (first
        | (go_at_call 84; refine (HQ.out _).mono ?_; rintro e w' ⟨rfl, rfl⟩)
        | (go_at_call 56; refine (HF.out _ hP).mono ?_; rintro e w' ⟨rfl, hk⟩; rw [hNX])
        | (go_at_call 57; refine (HZ.out _).mono ?_; rintro e w2 ⟨rfl, hk2⟩))
      have hkk := hk.trans hk2
      clear zX2 zZ2
      refine wp_region_kept (by kernel_rfl) (by kernel_rfl) ?_
      repeat (go_big_quiet_step (fail))
      refine wpQuiet_nil ?_
      rintro _ ⟨⟨wx, hx⟩, rfl⟩
      go_wp2_with fail
      go_ret
      exact ⟨ret_str HE.out, hkk.trans hx⟩
  · obtain ⟨k, hK⟩ : ∃ k : Nat, (X.size : Int) - q = (k : Int) := ⟨((X.size : Int) - q).toNat, by omega⟩
    have HT := Lib.hid (show L X = padD n q.toNat by
      rw [HX.out, padD, show q.toNat + 1 - (absD n).length = 0 by omega]; rfl)
    have zT : X.size = k + q.toNat := by omega
    have zX' : ¬ ((X.size : Int) ≤ q) := by omega
    have zX2 : X.size ≤ 20 := by omega
    have hd1 : (k : Int) ≤ X.size := by omega
    have f1 := ext_size01 X 0 k (by omega)
    have f2 := ext_size01 X k X.size (Nat.le_refl _)
    obtain ⟨P, hPx⟩ : ∃ P, X.extract 0 k = P := ⟨_, rfl⟩
    obtain ⟨R, hRx⟩ : ∃ R, X.extract k X.size = R := ⟨_, rfl⟩
    rw [hPx] at f1
    rw [hRx] at f2
    have m0 : ¬ (9223372036854775807 < P.size) := by omega
    have m4 : ¬ (9223372036854775807 < P.size + 1) := by omega
    have m5 : ¬ (9223372036854775807 < P.size + 1 + R.size) := by omega
    have m1 : ¬ (9223372036854775807 < 1 + P.size) := by omega
    have m2 : ¬ (9223372036854775807 < 1 + P.size + 1) := by omega
    have m3 : ¬ (9223372036854775807 < 1 + P.size + 1 + R.size) := by omega
    clear f1 f2
    by_cases hn : n < 0
    · have hN := numS_neg hn
      have zN : (numS n).size = X.size + 1 := by rw [hN, bs_size, zX]; rfl
      have hE : (numS n).extract 1 (X.size + 1) = X := by
        rw [← zN, ← L_inj, L_extract, HX.out, hN, L_bs, bs_size]; simp
      have he := fix_end n q.toNat k X HT.out zT ⟨#[45]⟩ (by rw [sgn, if_pos hn]; rfl)
      rw [hPx, hRx] at he
      have HE := Lib.hid he
      clear he
      clear hN hX zX hl hp zT hlt
      generalize numS n = N at *
      go_enter Tryz.func59, Tryz.ntmps59
      go_wp2_with (first
        | (go_at_call 84; refine (HQ.out _).mono ?_; rintro e w' ⟨rfl, rfl⟩)
        | (go_at_call 56; refine (HF.out _ hP).mono ?_; rintro e w' ⟨rfl, hk⟩))
      have hkk := hk
      clear zX2 zN
      refine wp_region_kept (by kernel_rfl) (by kernel_rfl) ?_
      repeat (go_big_quiet_step (fail))
      refine wpQuiet_nil ?_
      rintro _ ⟨⟨wx, hx⟩, rfl⟩
      go_wp2_with fail
      go_ret
      exact ⟨ret_str HE.out, hkk.trans hx⟩
    · have hNX : numS n = X := (numS_pos hn).trans hX.symm
      have he := fix_end n q.toNat k X HT.out zT ⟨#[]⟩ (by rw [sgn, if_neg hn]; rfl)
      rw [hPx, hRx] at he
      have HE := Lib.hid he
      clear he
      clear hX zX hl hp zT hlt m1 m2 m3
      go_enter Tryz.func59, Tryz.ntmps59
      go_wp2_with (first
        | (go_at_call 84; refine (HQ.out _).mono ?_; rintro e w' ⟨rfl, rfl⟩)
        | (go_at_call 56; refine (HF.out _ hP).mono ?_; rintro e w' ⟨rfl, hk⟩; rw [hNX]))
      have hkk := hk
      clear zX2
      refine wp_region_kept (by kernel_rfl) (by kernel_rfl) ?_
      repeat (go_big_quiet_step (fail))
      refine wpQuiet_nil ?_
      rintro _ ⟨⟨wx, hx⟩, rfl⟩
      go_wp2_with fail
      go_ret
      exact ⟨ret_str HE.out, hkk.trans hx⟩

theorem formatFixed_any (n p : Int) (h0 : -9223372036854775808 ≤ n) (h1 : n ≤ 9223372036854775807) (w : World) (hP : Pow w) :
    Calls Tryz.prog 59 #[.int .i64 n, .int .i64 p] w fun e w' => e = .returned (.string (fixS n (max 0 (min p 9)))) ∧ Kept w w' := by
  by_cases h : max 0 (min p 9) = 0
  · rw [fixS, if_pos h]; exact formatFixed_zero n p h h0 h1 w hP
  · rw [fixS, if_neg h]; exact formatFixed_pos n p _ rfl (by omega) h0 h1 w hP
end Go.Proofs.YtjeifmjcgemlgaaGreatDoor
/- What the reference's FormatFixed computes. -/
namespace Go.Proofs.YtjeifmjcgemlgaaGreatDoor
open Go.RowKit

theorem absD_head (n : Int) : (absD n).head? ≠ some 45 := by
  intro h
  have hd := decDigits_all n.natAbs
  have hm : (45 : UInt8) ∈ absD n := List.mem_of_mem_head? h
  rw [List.all_eq_true] at hd
  exact absurd (hd 45 hm) (by decide)
theorem numS_neg_b (n : Int) : negB (L (numS n)) = decide (n < 0) ∧ bodyL (L (numS n)) = absD n := by
  by_cases hn : n < 0
  · rw [numS_neg hn, L_bs]
    exact ⟨by rw [decide_eq_true hn]; rfl, rfl⟩
  · rw [numS_pos hn, L_bs]
    have h : negB (absD n) = false := by
      have := absD_head n
      unfold negB
      rw [beq_eq_false_iff_ne]; exact this
    exact ⟨by rw [h, decide_eq_false hn], by rw [bodyL, h]; rfl⟩
end Go.Proofs.YtjeifmjcgemlgaaGreatDoor
/- What SplitLines of package numtext, and of the reference, computes. -/
namespace Go.Proofs.YtjeifmjcgemlgaaGreatDoor
open Go.RowKit

def okC (c : UInt8) : Bool := c == 9 || (decide (32 ≤ c.toNat) && decide (c.toNat ≤ 126))
def lns (s : ByteArray) : List UInt8 → Nat → Nat → Option (List ByteArray × Nat)
  | [], _, st => some ([], st)
  | c :: r, pos, st => if c = 10 then (lns s r (pos + 1) (pos + 1)).map (fun p => (s.extract st pos :: p.1, p.2)) else if okC c then lns s r (pos + 1) st else none
/-- the lines of a text, and the code -/
def linR (s : ByteArray) : List ByteArray × Int :=
  if 65536 < s.size then ([], 4) else match lns s (L s) 0 0 with
    | none => ([], 2)
    | some (l, e) => if e = s.size then (l, 0) else ([], 2)
theorem lns_end (s : ByteArray) (pos st : Nat) : lns s [] pos st = some ([], st) := rfl
theorem lns_line {s : ByteArray} {r : List UInt8} {pos st : Nat} (c : UInt8) (h : c.toNat = 10) : lns s (c :: r) pos st = (lns s r (pos + 1) (pos + 1)).map (fun p => (s.extract st pos :: p.1, p.2)) := by
  rw [lns, if_pos (UInt8.toNat_inj.1 (show c.toNat = (10 : UInt8).toNat from h))]
theorem lns_ok {s : ByteArray} {r : List UInt8} {pos st : Nat} (c : UInt8) (h : c.toNat ≠ 10) (ho : c.toNat = 9 ∨ (32 ≤ c.toNat ∧ c.toNat ≤ 126)) : lns s (c :: r) pos st = lns s r (pos + 1) st := by
  rw [lns, if_neg (fun e => h (by rw [e]; rfl)), if_pos]
  unfold okC
  rcases ho with h9 | ⟨h1, h2⟩
  · rw [show c = 9 from UInt8.toNat_inj.1 h9]; rfl
  · simp [h1, h2]
theorem lns_bad {s : ByteArray} {r : List UInt8} {pos st : Nat} (c : UInt8) (h : c.toNat ≠ 10) (ho : ¬ (c.toNat = 9 ∨ (32 ≤ c.toNat ∧ c.toNat ≤ 126))) : lns s (c :: r) pos st = none := by
  rw [lns, if_neg (fun e => h (by rw [e]; rfl)), if_neg]
  unfold okC
  intro e
  rw [Bool.or_eq_true, beq_iff_eq, Bool.and_eq_true, decide_eq_true_eq, decide_eq_true_eq] at e
  rcases e with e | e
  · exact ho (.inl (by rw [e]; rfl))
  · exact ho (.inr e)

set_option maxRecDepth 100000 in
set_option maxHeartbeats 4000000 in
theorem lines_any (s : ByteArray) (hs : s.size ≤ 1000000) (w : World) :
    Calls Tryz.prog 22 #[.string s] w fun e w' => ∃ v, e = .returned (.tuple #[v, .int .i64 (linR s).2]) ∧ Strs w' v (linR s).1 ∧ Kept w w' := by
  by_cases hbig : 65536 < s.size
  · have HR := Lib.hid (show linR s = ([], 4) by rw [linR, if_pos hbig])
    go_enter Tryz.func22, Tryz.ntmps22
    go_wp2_with fail
    go_ret2
    rw [HR.out]
    exact ⟨_, rfl, Strs.nil _, Kept.refl _⟩
  · by_cases hz : s.size = 0
    · have hl : L s = [] := List.length_eq_zero_iff.1 (by rw [L_length]; exact hz)
      have HR := Lib.hid (show linR s = ([], 0) by rw [linR, if_neg hbig, hl, lns_end]; simp [hz])
      have he : (s.toList == []) = true := by rw [toList_L, hl]; rfl
      clear hl
      go_enter Tryz.func22, Tryz.ntmps22
      go_wp2_with fail
      go_ret2
      rw [HR.out]
      exact ⟨_, rfl, Strs.nil _, Kept.refl _⟩
    · have he : (s.toList == []) = false := by
        rw [toList_L]
        cases hl : L s with
        | nil => have := congrArg List.length hl; rw [L_length] at this; exact absurd this hz
        | cons c r => rfl
      obtain ⟨i0, hi, hz0, hz1, hz2⟩ := info_parts Tryz.infoStr
      go_enter Tryz.func22, Tryz.ntmps22
      go_wp2_with fail
      clear he
      go_loopw [4, 5] (fun x y wr => ∃ (pos st : Nat) (acc : List ByteArray), pos ≤ s.size ∧ st ≤ pos ∧ y = .int .i64 st ∧ acc.length ≤ pos ∧ wr.heap[w.heap.size]? = some (.stringIter s pos) ∧ Kept w wr ∧ Gath wr (w.heap.size + 1) x acc ∧ w.heap.size + 1 ≤ wr.heap.size ∧
          (lns s ((L s).drop pos) pos st).map (fun p => (acc ++ p.1, p.2)) = lns s (L s) 0 0) (fun _ _ wr => s.size - wr.iterPos w.heap.size)
      case atStart => exact ⟨0, 0, [], Nat.zero_le _, Nat.le_refl _, rfl, Nat.le_refl _, World.iter_heap _ _ _, (Kept.refl _).alloc _, Gath.nil _ _, by simp [World.iter], by rw [List.drop_zero]; simp⟩
      case round =>
        obtain ⟨pos, st, acc, hps, hst, rfl, hacc, hit, hK, hown, hsz, hrun⟩ := hrel
        have HIT0 := Lib.hid hit
        by_cases hp : pos < s.size
        · rw [L_drop s pos hp] at hrun
          have hIK : Kept w (wr.iterAt w.heap.size s (pos + 1)) := Lib.below_iterAt hK (Nat.le_refl _) _ _
          have hIT := Lib.iterAt_heap wr w.heap.size s pos (pos + 1) hit
          have hIS : w.heap.size + 1 ≤ (wr.iterAt w.heap.size s (pos + 1)).heap.size := by rw [Lib.iterAt_size]; exact hsz
          have hIG := Gath.iterAt hown s (pos + 1)
          by_cases h10 : (s[pos]'hp).toNat = 10
          · rw [lns_line _ h10] at hrun
            have HRUN := Lib.hid (show (lns s ((L s).drop (pos + 1)) (pos + 1) (pos + 1)).map (fun p => ((acc ++ [s.extract st pos]) ++ p.1, p.2)) = lns s (L s) 0 0 by
              rw [← hrun, Option.map_map]; congr 1; funext p; simp)
            have hnx : ∀ ty, (Instr.next (.pointer (some ⟨w.heap.size, 0, none⟩)) true ty).run Tryz.prog wr = _ := fun ty => Lib.run_next_ascii_at wr w.heap.size s pos ty hit hp (by omega)
            clear hrun hK hown hit hsz
            rw [h10] at hnx
            generalize wr.iterAt w.heap.size s (pos + 1) = W at *
            have HIG := Lib.hid hIG
            have HIK := Lib.hid hIK
            have HIT := Lib.hid hIT
            clear hIG hIK hIT
            go_wp2_with (at_builtin; refine wpList_append_own _ rfl (.tmp 22) (.tmp 27) 43 rfl (w.heap.size + 1) 9 i0 (.string ⟨#[]⟩) 1 16 (by kernel_rfl) hi hz0 hz1 hz2 rfl (by decide) _ acc.length (acc.map Value.string) rfl (World.ownsRow.alloc HIG.out _) ⟨W.heap.size, 0, none⟩ 1 1 [.string (s.extract st pos)] rfl rfl one_cell one_cell' (by unfold maxLen; omega) (by omega) (by simp; omega) ?_; intro v' w1 hown' hgrow _)
            go_roundw
            case rel =>
              refine ⟨pos + 1, pos + 1, acc ++ [s.extract st pos], hp, Nat.le_refl _, by go_num, by simp; omega, ?_, grown_kept HIK.out HIG.out (by omega) hgrow, Gath.snoc hown', ?_, HRUN.out⟩
              · exact (grown_block HIG.out hgrow (by omega) (by omega)).trans HIT.out
              · have := grown_size hgrow; omega
            case measure => rw [iterPos_of ((grown_block HIG.out hgrow (by omega) (by omega)).trans HIT.out), iterPos_of HIT0.out]; omega
          · by_cases hok : (s[pos]'hp).toNat = 9 ∨ (32 ≤ (s[pos]'hp).toNat ∧ (s[pos]'hp).toNat ≤ 126)
            · rw [lns_ok _ h10 hok] at hrun
              have HRUN := Lib.hid hrun
              have hlt128 : (s[pos]'hp).toNat < 128 := by omega
              have hnx : ∀ ty, (Instr.next (.pointer (some ⟨w.heap.size, 0, none⟩)) true ty).run Tryz.prog wr = _ := fun ty => Lib.run_next_ascii_at wr w.heap.size s pos ty hit hp hlt128
              clear hrun hK hown hit hsz
              generalize wr.iterAt w.heap.size s (pos + 1) = W at *
              have HIG := Lib.hid hIG
              have HIK := Lib.hid hIK
              have HIT := Lib.hid hIT
              clear hIG hIK hIT
              generalize (s[pos]'hp).toNat = c at *
              have h10b : ((c : Int) == 10) = false := by rw [beq_eq_false_iff_ne]; omega
              rcases hok with rfl | ⟨k1, k2⟩
              · go_wp2_with fail
                go_roundw
                case rel => exact ⟨pos + 1, st, acc, hp, by omega, rfl, by omega, HIT.out, HIK.out, HIG.out, hIS, HRUN.out⟩
                case measure => rw [iterPos_of HIT.out, iterPos_of HIT0.out]; omega
              · by_cases h9 : c = 9
                · omega
                · have h9b : ((c : Int) == 9) = false := by rw [beq_eq_false_iff_ne]; omega
                  go_wp2_with fail
                  go_roundw
                  case rel => exact ⟨pos + 1, st, acc, hp, by omega, rfl, by omega, HIT.out, HIK.out, HIG.out, hIS, HRUN.out⟩
                  case measure => rw [iterPos_of HIT.out, iterPos_of HIT0.out]; omega
            · rw [lns_bad _ h10 hok] at hrun
              have HR := Lib.hid (show linR s = ([], 2) by rw [linR, if_neg hbig, ← hrun]; rfl)
              have hr : (Utf8.decode s pos).1 ≠ 10 ∧ (Utf8.decode s pos).1 ≠ 9 ∧ ((Utf8.decode s pos).1 < 32 ∨ 126 < (Utf8.decode s pos).1) := by
                by_cases ha : (s[pos]'hp).toNat < 128
                · rw [decode_ascii s pos hp ha]; simp only; omega
                · have := (decode_high s pos hp (by omega)).1; omega
              have hle := decode_le s pos
              have hnx : ∀ ty, (Instr.next (.pointer (some ⟨w.heap.size, 0, none⟩)) true ty).run Tryz.prog wr = _ := fun ty => Lib.run_next_any_at wr w.heap.size s pos ty hit hp
              have HK := Lib.hid (show Kept w (wr.iterAt w.heap.size s (pos + (Utf8.decode s pos).2)) from Lib.below_iterAt hK (Nat.le_refl _) _ _)
              clear hrun hK hown hit hsz hIK hIT hIS hIG hok h10
              generalize wr.iterAt w.heap.size s (pos + (Utf8.decode s pos).2) = W at *
              generalize (Utf8.decode s pos).1 = r at *
              obtain ⟨r1, r2, r3⟩ := hr
              have r1b : ((r : Int) == 10) = false := by rw [beq_eq_false_iff_ne]; omega
              have r2b : ((r : Int) == 9) = false := by rw [beq_eq_false_iff_ne]; omega
              rcases r3 with r3 | r3
              · go_wp2_with fail
                go_ret2
                rw [HR.out]
                exact ⟨_, rfl, Strs.nil _, HK.out⟩
              · have r4 : (32 : Int) ≤ r := by omega
                go_wp2_with fail
                go_ret2
                rw [HR.out]
                exact ⟨_, rfl, Strs.nil _, HK.out⟩
        · rw [List.drop_of_length_le (by rw [L_length]; omega), lns_end] at hrun
          have hrun' : lns s (L s) 0 0 = some (acc, st) := by rw [← hrun]; simp
          have hnx : ∀ ty, (Instr.next (.pointer (some ⟨w.heap.size, 0, none⟩)) true ty).run Tryz.prog wr = _ := fun ty => Lib.run_next_end_at wr w.heap.size s pos ty hit hp
          by_cases hes : st = s.size
          · have HR := Lib.hid (show linR s = (acc, 0) by rw [linR, if_neg hbig, hrun']; simp [hes])
            have HS := Lib.hid hown.strs
            have HK := Lib.hid hK
            clear hrun hrun' hown hit hK
            go_wp2_with fail
            go_ret2
            rw [HR.out]
            exact ⟨_, rfl, HS.out, HK.out⟩
          · have HR := Lib.hid (show linR s = ([], 2) by rw [linR, if_neg hbig, hrun']; simp [hes])
            have HK := Lib.hid hK
            have hesb : ((st : Int) == s.size) = false := by rw [beq_eq_false_iff_ne]; omega
            clear hrun hrun' hown hit hK
            go_wp2_with fail
            go_ret2
            rw [HR.out]
            exact ⟨_, rfl, Strs.nil _, HK.out⟩
end Go.Proofs.YtjeifmjcgemlgaaGreatDoor
/- What the reference's SplitLines computes. -/
namespace Go.Proofs.YtjeifmjcgemlgaaGreatDoor
open Go.RowKit

end Go.Proofs.YtjeifmjcgemlgaaGreatDoor
