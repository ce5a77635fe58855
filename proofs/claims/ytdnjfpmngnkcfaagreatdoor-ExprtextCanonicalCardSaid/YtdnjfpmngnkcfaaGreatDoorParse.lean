/- What numtext.parse, ParseInt and ParseFixed compute. -/
import Derived.Test.YtdnjfpmngnkcfaaGreatDoorParseMath
import Derived.Test.YtdnjfpmngnkcfaaGreatDoorShelf
namespace Go.Proofs.YtdnjfpmngnkcfaaGreatDoor
open Go.RowKit

theorem ret_pair {r : Int × Int} {a b : Int} (h : r = (a, b)) : Ending.returned (.tuple #[.int .i64 a, .int .i64 b]) = .returned (.tuple #[.int .i64 r.1, .int .i64 r.2]) := by rw [h]
theorem hasMinus (l : List UInt8) : Lib.hasPrefix l [45] = negB l := by
  unfold Lib.hasPrefix negB
  cases l with
  | nil => rfl
  | cons c r => simp [List.isPrefixOf, Bool.beq_comm]
theorem cut_any (s : ByteArray) (w : World) :
    Calls Tryz.prog 114 #[.string s, .string ⟨#[45]⟩] w fun e w' => e = .returned (.tuple #[.string (bs (bodyL (L s))), .bool (negB (L s))]) ∧ w = w' := by
  refine (Tryz.strings_CutPrefix s ⟨#[45]⟩ w).mono ?_
  rintro e w' ⟨rfl, rfl⟩
  have h1 : Lib.hasPrefix s.data.toList [45] = negB (L s) := hasMinus (L s)
  refine ⟨?_, rfl⟩
  show Ending.returned (.tuple #[.string (bs (Lib.trimPrefix (L s) [45])), .bool (Lib.hasPrefix s.data.toList [45])]) = _
  rw [h1, Lib.trimPrefix, hasMinus, bodyL]
  cases negB (L s)
  · rfl
  · show Ending.returned (.tuple #[.string (bs ((L s).drop 1)), _]) = _
    rw [List.drop_one]; rfl
theorem isDigit_is (r : Int) (b : Bool) (h : (decide (48 ≤ r) && decide (r ≤ 57)) = b) (w : World) :
    Calls Tryz.prog 115 #[.int .i32 r] w fun e w' => e = .returned (.bool b) ∧ w = w' := by
  subst h
  by_cases h1 : 48 ≤ r
  · by_cases h2 : r ≤ 57
    all_goals
      go_enter Tryz.func115, Tryz.ntmps115
      go_wp2_with fail
      go_ret
      exact ⟨ret_bool (by simp [h1, h2]), rfl⟩
  · go_enter Tryz.func115, Tryz.ntmps115
    go_wp2_with fail
    go_ret
    exact ⟨ret_bool (by simp; omega), rfl⟩
theorem clamp_any (p : Int) (w : World) : Calls Tryz.prog 70 #[.int .i64 p] w fun e w' => e = .returned (.int .i64 (max 0 (min p 9))) ∧ w = w' := by
  go_enter Tryz.func70, Tryz.ntmps70
  go_wp2_with fail
  go_ret
  exact ⟨rfl, rfl⟩

/-- the first byte of a string of two bytes or more is no superfluous zero, or is one -/
theorem bad_cases (b : ByteArray) (k : Int) (hk : k ≤ b.size) : (badL (L b) k = true ∧ k < 1) ∨ (badL (L b) k = false ∧ k = 1) ∨
    ∃ h : 1 < k, (badL (L b) k = true ∧ (b[0]'(by omega)).toNat = 48) ∨ (badL (L b) k = false ∧ (b[0]'(by omega)).toNat ≠ 48) := by
  by_cases h1 : k < 1
  · exact .inl ⟨by simp [badL, h1], h1⟩
  · by_cases h2 : k = 1
    · exact .inr (.inl ⟨by simp [badL, h2], h2⟩)
    · have h3 : 1 < k := by omega
      refine .inr (.inr ⟨h3, ?_⟩)
      have hg := L_get b 0 (by omega)
      have hh : (L b).head? = some (b[0]'(by omega)) := by rw [← hg, List.head?_eq_getElem?]
      have key : (some (b[0]'(by omega)) == some (48 : UInt8)) = decide ((b[0]'(by omega)).toNat = 48) := by
        by_cases hc : (b[0]'(by omega)) = 48
        · rw [hc]; rfl
        · have : (b[0]'(by omega)).toNat ≠ 48 := fun e => hc (UInt8.toNat_inj.1 e)
          simp [hc, this]
      unfold badL
      rw [hh, key]
      by_cases hc : (b[0]'(by omega)).toNat = 48
      · exact .inl ⟨by simp [h3, hc], hc⟩
      · exact .inr ⟨by simp [h1, hc], hc⟩

theorem b10_le {v : Nat} (h : ¬ B10 < v) : v ≤ 461168601842738790 := by unfold B10 at h; omega
theorem rune_ascii {s : ByteArray} {pos : Nat} {hp : pos < s.size} {z : Nat} (hz : z < 128) (h : (s[pos]'hp).toNat = z) : Utf8.decode s pos = (z, 1) := by
  rw [decode_ascii s pos hp (by omega), h]
/-- a byte that is not the ASCII byte z: the rune read there is not z -/
theorem rune_not {s : ByteArray} {pos : Nat} (hp : pos < s.size) {z : Nat} (hz : z < 128) (h : (s[pos]'hp).toNat ≠ z) : (Utf8.decode s pos).1 ≠ z := by
  by_cases ha : (s[pos]'hp).toNat < 128
  · rw [decode_ascii s pos hp ha]; exact h
  · have := (decode_high s pos hp (by omega)).1
    omega
theorem rune_nodig {s : ByteArray} {pos : Nat} (hp : pos < s.size) (h : isDig (s[pos]'hp) = false) : (decide ((48 : Int) ≤ ((Utf8.decode s pos).1 : Int)) && decide (((Utf8.decode s pos).1 : Int) ≤ 57)) = false := by
  by_cases ha : (s[pos]'hp).toNat < 128
  · rw [decode_ascii s pos hp ha]
    have hd' : ¬ (48 ≤ s[pos].toNat ∧ s[pos].toNat ≤ 57) := fun h' => by rw [isDig_iff.2 h'] at h; cases h
    rw [Bool.and_eq_false_iff, decide_eq_false_iff_not, decide_eq_false_iff_not]; simp only; omega
  · have := (decode_high s pos hp (by omega)).1
    rw [Bool.and_eq_false_iff, decide_eq_false_iff_not, decide_eq_false_iff_not]; omega

set_option maxRecDepth 100000 in
set_option maxHeartbeats 8000000 in
theorem parse_num (s : ByteArray) (p : Int) (hs : s.size ≤ 1000000) (p0 : 0 ≤ p) (p9 : p ≤ 9) (w : World) :
    Calls Tryz.prog 97 #[.string s, .int .i64 p] w fun e w' => e = .returned (.tuple #[.int .i64 (parP (L s) p).1, .int .i64 (parP (L s) p).2]) ∧ Kept w w' := by
  have hbs : (bs (bodyL (L s))).size ≤ 1000000 := by
    rw [bs_size, bodyL]; split
    · rw [List.length_tail, L_length]; omega
    · rw [L_length]; exact hs
  have HP := Lib.hid (show parP (L s) p = bodyP (L (bs (bodyL (L s)))) (negB (L s)) p from rfl)
  have HC := Lib.hid (fun w => cut_any s w)
  generalize bs (bodyL (L s)) = b at *
  generalize negB (L s) = neg at *
  rcases (by omega : 0 < p ∨ p = 0) with hp | rfl
  · obtain ⟨k, hk⟩ : ∃ k, k = wholeI (L b) p := ⟨_, rfl⟩
    have hk' : k = (b.size : Int) - (p + 1) := by rw [hk, wholeI, if_pos hp, L_length]
    have hkb : k ≤ b.size := by omega
    rcases bad_cases b k hkb with ⟨hb, h1⟩ | ⟨hb, h1⟩ | ⟨h1, ⟨hb, h2⟩ | ⟨hb, h2⟩⟩
    · have HR := Lib.hid (show bodyP (L b) neg p = (0, 2) by rw [bodyP, ← hk, hb]; rfl)
      clear hb hk
      subst hk'
      go_enter Tryz.func97, Tryz.ntmps97
      go_wp2_with (go_at_call 114; refine (HC.out _).mono ?_; rintro e w' ⟨rfl, rfl⟩)
      go_ret2
      exact ⟨by rw [HP.out]; exact ret_pair HR.out, Kept.refl _⟩
    · have HB := Lib.hid (show bodyP (L b) neg p = finR neg (run (L b) k 0 false) by rw [bodyP, ← hk, hb]; rfl)
      clear hb hk
      first | have h3 : (((b[0]'(by omega)).toNat : Int) == 48) = false := by (rw [beq_eq_false_iff_ne]; omega)
            | skip
      go_enter Tryz.func97, Tryz.ntmps97
      go_wp2_with (go_at_call 114; refine (HC.out _).mono ?_; rintro e w' ⟨rfl, rfl⟩)
      go_loopw [9, 10] (fun n lg w' => ∃ (pos v : Nat) (g : Bool), pos ≤ b.size ∧ w' = w.iter b pos ∧ n = .int .i64 v ∧ lg = .bool g ∧ v ≤ 4611686018427387909 ∧ run ((L b).drop pos) (k - pos) v g = run (L b) k 0 false) (fun _ _ w' => b.size - w'.iterPos w.heap.size)
      case atStart => exact ⟨0, 0, false, Nat.zero_le _, rfl, rfl, rfl, by omega, by rw [List.drop_zero]; simp⟩
      case round =>
        obtain ⟨pos, v, g, hps, rfl, rfl, rfl, hv, hrun⟩ := hrel
        by_cases hlt : pos < b.size
        · rw [L_drop b pos hlt] at hrun
          by_cases hpt : (pos : Int) = k
          · by_cases hc : (b[pos]'hlt).toNat = 46
            · have HRUN := Lib.hid (show run ((L b).drop (pos + 1)) (k - ((pos + 1 : Nat) : Int)) v g = run (L b) k 0 false by
                rw [← hrun, show (b[pos]'hlt) = 46 from UInt8.toNat_inj.1 hc, run_point (by omega)]; congr 1; omega)
              clear hrun
              have hnx : ∀ ty, (Instr.next (.pointer (some ⟨w.heap.size, 0, none⟩)) true ty).run Tryz.prog (w.iter b pos) = _ := fun ty => run_next_ascii w b pos ty hlt (by omega)
              rw [hc] at hnx
              go_wp2_with fail
              go_roundw
              case rel => exact ⟨pos + 1, v, g, hlt, rfl, rfl, rfl, hv, HRUN.out⟩
              case measure => simp; omega
            · have HN := Lib.hid (show run (L b) k 0 false = none by
                rw [← hrun, run_nopoint (by omega) (fun e => hc (by rw [e]; rfl))])
              have hne := rune_not hlt (z := 46) (by omega) hc
              have hle := decode_le b pos
              have hnx : ∀ ty, (Instr.next (.pointer (some ⟨w.heap.size, 0, none⟩)) true ty).run Tryz.prog (w.iter b pos) = _ := fun ty => run_next_any w b pos ty hlt
              clear hrun
              generalize (Utf8.decode b pos).1 = r at *
              go_wp2_with fail
              go_ret2
              exact ⟨by rw [HP.out]; exact ret_pair (by rw [HB.out, HN.out]; rfl), (Kept.refl _).alloc _⟩
          · cases hd : isDig (b[pos]'hlt)
            · have HN := Lib.hid (show run (L b) k 0 false = none by
                rw [← hrun, run_nodig (by omega) hd])
              have hne := rune_nodig hlt hd
              have hle := decode_le b pos
              have hnx : ∀ ty, (Instr.next (.pointer (some ⟨w.heap.size, 0, none⟩)) true ty).run Tryz.prog (w.iter b pos) = _ := fun ty => run_next_any w b pos ty hlt
              clear hrun
              generalize (Utf8.decode b pos).1 = r at *
              have HNE := Lib.hid hne
              clear hne
              go_wp2_with (go_at_call 115; refine (isDigit_is _ false HNE.out _).mono ?_; rintro e w' ⟨rfl, rfl⟩)
              go_ret2
              exact ⟨by rw [HP.out]; exact ret_pair (by rw [HB.out, HN.out]; rfl), (Kept.refl _).alloc _⟩
            · obtain ⟨hd1, hd2⟩ := isDig_iff.1 hd
              have hnx : ∀ ty, (Instr.next (.pointer (some ⟨w.heap.size, 0, none⟩)) true ty).run Tryz.prog (w.iter b pos) = _ := fun ty => run_next_ascii w b pos ty hlt (by omega)
              have edv : dval (b[pos]'hlt) = (b[pos]'hlt).toNat - 48 := rfl
              have HNE := Lib.hid (show (decide ((48 : Int) ≤ (((b[pos]'hlt).toNat : Nat) : Int)) && decide ((((b[pos]'hlt).toNat : Nat) : Int) ≤ 57)) = true by simp; omega)
              have ek : k - (pos : Int) - 1 = k - ((pos + 1 : Nat) : Int) := by omega
              by_cases ho : g = true ∨ B10 < v
              · have HRUN := Lib.hid (show run ((L b).drop (pos + 1)) (k - ((pos + 1 : Nat) : Int)) v true = run (L b) k 0 false by
                  rw [← hrun, run_over (by omega) hd ho, ek])
                clear hrun edv
                generalize (b[pos]'hlt).toNat = c at *
                have ho' : g = true ∨ (g = false ∧ 461168601842738790 < v) := by
                  cases g
                  · exact .inr ⟨rfl, by rcases ho with h | h; cases h; exact h⟩
                  · exact .inl rfl
                clear ho
                rcases ho' with rfl | ⟨rfl, ho⟩
                all_goals
                  go_wp2_with (go_at_call 115; refine (isDigit_is _ true HNE.out _).mono ?_; rintro e w' ⟨rfl, rfl⟩)
                  go_roundw
                  case rel => exact ⟨pos + 1, v, true, hlt, rfl, rfl, rfl, hv, HRUN.out⟩
                  case measure => simp; omega
              · have hg : g = false := by
                  cases g
                  · rfl
                  · exact absurd (.inl rfl) ho
                subst hg
                have ho2 := b10_le (fun h => ho (.inr h))
                have HRUN := Lib.hid (show run ((L b).drop (pos + 1)) (k - ((pos + 1 : Nat) : Int)) (10 * v + ((b[pos]'hlt).toNat - 48)) (decide (BB < 10 * v + ((b[pos]'hlt).toNat - 48))) = run (L b) k 0 false by
                  rw [← hrun, run_dig (by omega) hd (fun h => ho (.inr h)), ek, edv])
                clear hrun edv ho
                generalize (b[pos]'hlt).toNat = c at *
                go_wp2_with (go_at_call 115; refine (isDigit_is _ true HNE.out _).mono ?_; rintro e w' ⟨rfl, rfl⟩)
                go_roundw
                case rel => exact ⟨pos + 1, 10 * v + (c - 48), _, hlt, rfl, by congr 1; omega, rfl, by omega, by rw [← HRUN.out]; congr 1; exact decide_eq_decide.2 (by unfold BB; omega)⟩
                case measure => simp; omega
        · rw [List.drop_of_length_le (by rw [L_length]; omega), run] at hrun
          have HN := Lib.hid hrun.symm
          clear hrun
          have hnx : ∀ ty, (Instr.next (.pointer (some ⟨w.heap.size, 0, none⟩)) true ty).run Tryz.prog (w.iter b pos) = _ := fun ty => run_next_end w b pos ty hlt
          have hz : v = 0 ∨ v ≠ 0 := by omega
          cases neg <;> cases g <;> rcases hz with rfl | hz
          all_goals
            have HF := Lib.hid (HB.out.trans (congrArg (finR _) HN.out))
            go_wp2_with fail
            go_ret2
            exact ⟨by rw [HP.out]; exact ret_pair (by rw [HF.out]; first | (simp [finR, signed]; done) | (simp [finR, signed, hz]; done)), (Kept.refl _).alloc _⟩
    · have HR := Lib.hid (show bodyP (L b) neg p = (0, 2) by rw [bodyP, ← hk, hb]; rfl)
      clear hb hk
      subst hk'
      go_enter Tryz.func97, Tryz.ntmps97
      go_wp2_with (go_at_call 114; refine (HC.out _).mono ?_; rintro e w' ⟨rfl, rfl⟩)
      go_ret2
      exact ⟨by rw [HP.out]; exact ret_pair HR.out, Kept.refl _⟩
    · have HB := Lib.hid (show bodyP (L b) neg p = finR neg (run (L b) k 0 false) by rw [bodyP, ← hk, hb]; rfl)
      clear hb hk
      first | have h3 : (((b[0]'(by omega)).toNat : Int) == 48) = false := by (rw [beq_eq_false_iff_ne]; omega)
            | skip
      go_enter Tryz.func97, Tryz.ntmps97
      go_wp2_with (go_at_call 114; refine (HC.out _).mono ?_; rintro e w' ⟨rfl, rfl⟩)
      go_loopw [9, 10] (fun n lg w' => ∃ (pos v : Nat) (g : Bool), pos ≤ b.size ∧ w' = w.iter b pos ∧ n = .int .i64 v ∧ lg = .bool g ∧ v ≤ 4611686018427387909 ∧ run ((L b).drop pos) (k - pos) v g = run (L b) k 0 false) (fun _ _ w' => b.size - w'.iterPos w.heap.size)
      case atStart => exact ⟨0, 0, false, Nat.zero_le _, rfl, rfl, rfl, by omega, by rw [List.drop_zero]; simp⟩
      case round =>
        obtain ⟨pos, v, g, hps, rfl, rfl, rfl, hv, hrun⟩ := hrel
        by_cases hlt : pos < b.size
        · rw [L_drop b pos hlt] at hrun
          by_cases hpt : (pos : Int) = k
          · by_cases hc : (b[pos]'hlt).toNat = 46
            · have HRUN := Lib.hid (show run ((L b).drop (pos + 1)) (k - ((pos + 1 : Nat) : Int)) v g = run (L b) k 0 false by
                rw [← hrun, show (b[pos]'hlt) = 46 from UInt8.toNat_inj.1 hc, run_point (by omega)]; congr 1; omega)
              clear hrun
              have hnx : ∀ ty, (Instr.next (.pointer (some ⟨w.heap.size, 0, none⟩)) true ty).run Tryz.prog (w.iter b pos) = _ := fun ty => run_next_ascii w b pos ty hlt (by omega)
              rw [hc] at hnx
              go_wp2_with fail
              go_roundw
              case rel => exact ⟨pos + 1, v, g, hlt, rfl, rfl, rfl, hv, HRUN.out⟩
              case measure => simp; omega
            · have HN := Lib.hid (show run (L b) k 0 false = none by
                rw [← hrun, run_nopoint (by omega) (fun e => hc (by rw [e]; rfl))])
              have hne := rune_not hlt (z := 46) (by omega) hc
              have hle := decode_le b pos
              have hnx : ∀ ty, (Instr.next (.pointer (some ⟨w.heap.size, 0, none⟩)) true ty).run Tryz.prog (w.iter b pos) = _ := fun ty => run_next_any w b pos ty hlt
              clear hrun
              generalize (Utf8.decode b pos).1 = r at *
              go_wp2_with fail
              go_ret2
              exact ⟨by rw [HP.out]; exact ret_pair (by rw [HB.out, HN.out]; rfl), (Kept.refl _).alloc _⟩
          · cases hd : isDig (b[pos]'hlt)
            · have HN := Lib.hid (show run (L b) k 0 false = none by
                rw [← hrun, run_nodig (by omega) hd])
              have hne := rune_nodig hlt hd
              have hle := decode_le b pos
              have hnx : ∀ ty, (Instr.next (.pointer (some ⟨w.heap.size, 0, none⟩)) true ty).run Tryz.prog (w.iter b pos) = _ := fun ty => run_next_any w b pos ty hlt
              clear hrun
              generalize (Utf8.decode b pos).1 = r at *
              have HNE := Lib.hid hne
              clear hne
              go_wp2_with (go_at_call 115; refine (isDigit_is _ false HNE.out _).mono ?_; rintro e w' ⟨rfl, rfl⟩)
              go_ret2
              exact ⟨by rw [HP.out]; exact ret_pair (by rw [HB.out, HN.out]; rfl), (Kept.refl _).alloc _⟩
            · obtain ⟨hd1, hd2⟩ := isDig_iff.1 hd
              have hnx : ∀ ty, (Instr.next (.pointer (some ⟨w.heap.size, 0, none⟩)) true ty).run Tryz.prog (w.iter b pos) = _ := fun ty => run_next_ascii w b pos ty hlt (by omega)
              have edv : dval (b[pos]'hlt) = (b[pos]'hlt).toNat - 48 := rfl
              have HNE := Lib.hid (show (decide ((48 : Int) ≤ (((b[pos]'hlt).toNat : Nat) : Int)) && decide ((((b[pos]'hlt).toNat : Nat) : Int) ≤ 57)) = true by simp; omega)
              have ek : k - (pos : Int) - 1 = k - ((pos + 1 : Nat) : Int) := by omega
              by_cases ho : g = true ∨ B10 < v
              · have HRUN := Lib.hid (show run ((L b).drop (pos + 1)) (k - ((pos + 1 : Nat) : Int)) v true = run (L b) k 0 false by
                  rw [← hrun, run_over (by omega) hd ho, ek])
                clear hrun edv
                generalize (b[pos]'hlt).toNat = c at *
                have ho' : g = true ∨ (g = false ∧ 461168601842738790 < v) := by
                  cases g
                  · exact .inr ⟨rfl, by rcases ho with h | h; cases h; exact h⟩
                  · exact .inl rfl
                clear ho
                rcases ho' with rfl | ⟨rfl, ho⟩
                all_goals
                  go_wp2_with (go_at_call 115; refine (isDigit_is _ true HNE.out _).mono ?_; rintro e w' ⟨rfl, rfl⟩)
                  go_roundw
                  case rel => exact ⟨pos + 1, v, true, hlt, rfl, rfl, rfl, hv, HRUN.out⟩
                  case measure => simp; omega
              · have hg : g = false := by
                  cases g
                  · rfl
                  · exact absurd (.inl rfl) ho
                subst hg
                have ho2 := b10_le (fun h => ho (.inr h))
                have HRUN := Lib.hid (show run ((L b).drop (pos + 1)) (k - ((pos + 1 : Nat) : Int)) (10 * v + ((b[pos]'hlt).toNat - 48)) (decide (BB < 10 * v + ((b[pos]'hlt).toNat - 48))) = run (L b) k 0 false by
                  rw [← hrun, run_dig (by omega) hd (fun h => ho (.inr h)), ek, edv])
                clear hrun edv ho
                generalize (b[pos]'hlt).toNat = c at *
                go_wp2_with (go_at_call 115; refine (isDigit_is _ true HNE.out _).mono ?_; rintro e w' ⟨rfl, rfl⟩)
                go_roundw
                case rel => exact ⟨pos + 1, 10 * v + (c - 48), _, hlt, rfl, by congr 1; omega, rfl, by omega, by rw [← HRUN.out]; congr 1; exact decide_eq_decide.2 (by unfold BB; omega)⟩
                case measure => simp; omega
        · rw [List.drop_of_length_le (by rw [L_length]; omega), run] at hrun
          have HN := Lib.hid hrun.symm
          clear hrun
          have hnx : ∀ ty, (Instr.next (.pointer (some ⟨w.heap.size, 0, none⟩)) true ty).run Tryz.prog (w.iter b pos) = _ := fun ty => run_next_end w b pos ty hlt
          have hz : v = 0 ∨ v ≠ 0 := by omega
          cases neg <;> cases g <;> rcases hz with rfl | hz
          all_goals
            have HF := Lib.hid (HB.out.trans (congrArg (finR _) HN.out))
            go_wp2_with fail
            go_ret2
            exact ⟨by rw [HP.out]; exact ret_pair (by rw [HF.out]; first | (simp [finR, signed]; done) | (simp [finR, signed, hz]; done)), (Kept.refl _).alloc _⟩
  · obtain ⟨k, hk⟩ : ∃ k, k = wholeI (L b) 0 := ⟨_, rfl⟩
    have hk' : k = (b.size : Int) := by rw [hk, wholeI, if_neg (by omega), L_length]
    have hkb : k ≤ b.size := by omega
    rcases bad_cases b k hkb with ⟨hb, h1⟩ | ⟨hb, h1⟩ | ⟨h1, ⟨hb, h2⟩ | ⟨hb, h2⟩⟩
    · have HR := Lib.hid (show bodyP (L b) neg 0 = (0, 2) by rw [bodyP, ← hk, hb]; rfl)
      clear hb hk
      subst hk'
      go_enter Tryz.func97, Tryz.ntmps97
      go_wp2_with (go_at_call 114; refine (HC.out _).mono ?_; rintro e w' ⟨rfl, rfl⟩)
      go_ret2
      exact ⟨by rw [HP.out]; exact ret_pair HR.out, Kept.refl _⟩
    · have HB := Lib.hid (show bodyP (L b) neg 0 = finR neg (run (L b) k 0 false) by rw [bodyP, ← hk, hb]; rfl)
      clear hb hk
      first | have h3 : (((b[0]'(by omega)).toNat : Int) == 48) = false := by (rw [beq_eq_false_iff_ne]; omega)
            | skip
      go_enter Tryz.func97, Tryz.ntmps97
      go_wp2_with (go_at_call 114; refine (HC.out _).mono ?_; rintro e w' ⟨rfl, rfl⟩)
      go_loopw [9, 10] (fun n lg w' => ∃ (pos v : Nat) (g : Bool), pos ≤ b.size ∧ w' = w.iter b pos ∧ n = .int .i64 v ∧ lg = .bool g ∧ v ≤ 4611686018427387909 ∧ run ((L b).drop pos) (k - pos) v g = run (L b) k 0 false) (fun _ _ w' => b.size - w'.iterPos w.heap.size)
      case atStart => exact ⟨0, 0, false, Nat.zero_le _, rfl, rfl, rfl, by omega, by rw [List.drop_zero]; simp⟩
      case round =>
        obtain ⟨pos, v, g, hps, rfl, rfl, rfl, hv, hrun⟩ := hrel
        by_cases hlt : pos < b.size
        · rw [L_drop b pos hlt] at hrun
          by_cases hpt : (pos : Int) = k
          · exfalso; omega
          · cases hd : isDig (b[pos]'hlt)
            · have HN := Lib.hid (show run (L b) k 0 false = none by
                rw [← hrun, run_nodig (by omega) hd])
              have hne := rune_nodig hlt hd
              have hle := decode_le b pos
              have hnx : ∀ ty, (Instr.next (.pointer (some ⟨w.heap.size, 0, none⟩)) true ty).run Tryz.prog (w.iter b pos) = _ := fun ty => run_next_any w b pos ty hlt
              clear hrun
              generalize (Utf8.decode b pos).1 = r at *
              have HNE := Lib.hid hne
              clear hne
              go_wp2_with (go_at_call 115; refine (isDigit_is _ false HNE.out _).mono ?_; rintro e w' ⟨rfl, rfl⟩)
              go_ret2
              exact ⟨by rw [HP.out]; exact ret_pair (by rw [HB.out, HN.out]; rfl), (Kept.refl _).alloc _⟩
            · obtain ⟨hd1, hd2⟩ := isDig_iff.1 hd
              have hnx : ∀ ty, (Instr.next (.pointer (some ⟨w.heap.size, 0, none⟩)) true ty).run Tryz.prog (w.iter b pos) = _ := fun ty => run_next_ascii w b pos ty hlt (by omega)
              have edv : dval (b[pos]'hlt) = (b[pos]'hlt).toNat - 48 := rfl
              have HNE := Lib.hid (show (decide ((48 : Int) ≤ (((b[pos]'hlt).toNat : Nat) : Int)) && decide ((((b[pos]'hlt).toNat : Nat) : Int) ≤ 57)) = true by simp; omega)
              have ek : k - (pos : Int) - 1 = k - ((pos + 1 : Nat) : Int) := by omega
              by_cases ho : g = true ∨ B10 < v
              · have HRUN := Lib.hid (show run ((L b).drop (pos + 1)) (k - ((pos + 1 : Nat) : Int)) v true = run (L b) k 0 false by
                  rw [← hrun, run_over (by omega) hd ho, ek])
                clear hrun edv
                generalize (b[pos]'hlt).toNat = c at *
                have ho' : g = true ∨ (g = false ∧ 461168601842738790 < v) := by
                  cases g
                  · exact .inr ⟨rfl, by rcases ho with h | h; cases h; exact h⟩
                  · exact .inl rfl
                clear ho
                rcases ho' with rfl | ⟨rfl, ho⟩
                all_goals
                  go_wp2_with (go_at_call 115; refine (isDigit_is _ true HNE.out _).mono ?_; rintro e w' ⟨rfl, rfl⟩)
                  go_roundw
                  case rel => exact ⟨pos + 1, v, true, hlt, rfl, rfl, rfl, hv, HRUN.out⟩
                  case measure => simp; omega
              · have hg : g = false := by
                  cases g
                  · rfl
                  · exact absurd (.inl rfl) ho
                subst hg
                have ho2 := b10_le (fun h => ho (.inr h))
                have HRUN := Lib.hid (show run ((L b).drop (pos + 1)) (k - ((pos + 1 : Nat) : Int)) (10 * v + ((b[pos]'hlt).toNat - 48)) (decide (BB < 10 * v + ((b[pos]'hlt).toNat - 48))) = run (L b) k 0 false by
                  rw [← hrun, run_dig (by omega) hd (fun h => ho (.inr h)), ek, edv])
                clear hrun edv ho
                generalize (b[pos]'hlt).toNat = c at *
                go_wp2_with (go_at_call 115; refine (isDigit_is _ true HNE.out _).mono ?_; rintro e w' ⟨rfl, rfl⟩)
                go_roundw
                case rel => exact ⟨pos + 1, 10 * v + (c - 48), _, hlt, rfl, by congr 1; omega, rfl, by omega, by rw [← HRUN.out]; congr 1; exact decide_eq_decide.2 (by unfold BB; omega)⟩
                case measure => simp; omega
        · rw [List.drop_of_length_le (by rw [L_length]; omega), run] at hrun
          have HN := Lib.hid hrun.symm
          clear hrun
          have hnx : ∀ ty, (Instr.next (.pointer (some ⟨w.heap.size, 0, none⟩)) true ty).run Tryz.prog (w.iter b pos) = _ := fun ty => run_next_end w b pos ty hlt
          have hz : v = 0 ∨ v ≠ 0 := by omega
          cases neg <;> cases g <;> rcases hz with rfl | hz
          all_goals
            have HF := Lib.hid (HB.out.trans (congrArg (finR _) HN.out))
            go_wp2_with fail
            go_ret2
            exact ⟨by rw [HP.out]; exact ret_pair (by rw [HF.out]; first | (simp [finR, signed]; done) | (simp [finR, signed, hz]; done)), (Kept.refl _).alloc _⟩
    · have HR := Lib.hid (show bodyP (L b) neg 0 = (0, 2) by rw [bodyP, ← hk, hb]; rfl)
      clear hb hk
      subst hk'
      go_enter Tryz.func97, Tryz.ntmps97
      go_wp2_with (go_at_call 114; refine (HC.out _).mono ?_; rintro e w' ⟨rfl, rfl⟩)
      go_ret2
      exact ⟨by rw [HP.out]; exact ret_pair HR.out, Kept.refl _⟩
    · have HB := Lib.hid (show bodyP (L b) neg 0 = finR neg (run (L b) k 0 false) by rw [bodyP, ← hk, hb]; rfl)
      clear hb hk
      first | have h3 : (((b[0]'(by omega)).toNat : Int) == 48) = false := by (rw [beq_eq_false_iff_ne]; omega)
            | skip
      go_enter Tryz.func97, Tryz.ntmps97
      go_wp2_with (go_at_call 114; refine (HC.out _).mono ?_; rintro e w' ⟨rfl, rfl⟩)
      go_loopw [9, 10] (fun n lg w' => ∃ (pos v : Nat) (g : Bool), pos ≤ b.size ∧ w' = w.iter b pos ∧ n = .int .i64 v ∧ lg = .bool g ∧ v ≤ 4611686018427387909 ∧ run ((L b).drop pos) (k - pos) v g = run (L b) k 0 false) (fun _ _ w' => b.size - w'.iterPos w.heap.size)
      case atStart => exact ⟨0, 0, false, Nat.zero_le _, rfl, rfl, rfl, by omega, by rw [List.drop_zero]; simp⟩
      case round =>
        obtain ⟨pos, v, g, hps, rfl, rfl, rfl, hv, hrun⟩ := hrel
        by_cases hlt : pos < b.size
        · rw [L_drop b pos hlt] at hrun
          by_cases hpt : (pos : Int) = k
          · exfalso; omega
          · cases hd : isDig (b[pos]'hlt)
            · have HN := Lib.hid (show run (L b) k 0 false = none by
                rw [← hrun, run_nodig (by omega) hd])
              have hne := rune_nodig hlt hd
              have hle := decode_le b pos
              have hnx : ∀ ty, (Instr.next (.pointer (some ⟨w.heap.size, 0, none⟩)) true ty).run Tryz.prog (w.iter b pos) = _ := fun ty => run_next_any w b pos ty hlt
              clear hrun
              generalize (Utf8.decode b pos).1 = r at *
              have HNE := Lib.hid hne
              clear hne
              go_wp2_with (go_at_call 115; refine (isDigit_is _ false HNE.out _).mono ?_; rintro e w' ⟨rfl, rfl⟩)
              go_ret2
              exact ⟨by rw [HP.out]; exact ret_pair (by rw [HB.out, HN.out]; rfl), (Kept.refl _).alloc _⟩
            · obtain ⟨hd1, hd2⟩ := isDig_iff.1 hd
              have hnx : ∀ ty, (Instr.next (.pointer (some ⟨w.heap.size, 0, none⟩)) true ty).run Tryz.prog (w.iter b pos) = _ := fun ty => run_next_ascii w b pos ty hlt (by omega)
              have edv : dval (b[pos]'hlt) = (b[pos]'hlt).toNat - 48 := rfl
              have HNE := Lib.hid (show (decide ((48 : Int) ≤ (((b[pos]'hlt).toNat : Nat) : Int)) && decide ((((b[pos]'hlt).toNat : Nat) : Int) ≤ 57)) = true by simp; omega)
              have ek : k - (pos : Int) - 1 = k - ((pos + 1 : Nat) : Int) := by omega
              by_cases ho : g = true ∨ B10 < v
              · have HRUN := Lib.hid (show run ((L b).drop (pos + 1)) (k - ((pos + 1 : Nat) : Int)) v true = run (L b) k 0 false by
                  rw [← hrun, run_over (by omega) hd ho, ek])
                clear hrun edv
                generalize (b[pos]'hlt).toNat = c at *
                have ho' : g = true ∨ (g = false ∧ 461168601842738790 < v) := by
                  cases g
                  · exact .inr ⟨rfl, by rcases ho with h | h; cases h; exact h⟩
                  · exact .inl rfl
                clear ho
                rcases ho' with rfl | ⟨rfl, ho⟩
                all_goals
                  go_wp2_with (go_at_call 115; refine (isDigit_is _ true HNE.out _).mono ?_; rintro e w' ⟨rfl, rfl⟩)
                  go_roundw
                  case rel => exact ⟨pos + 1, v, true, hlt, rfl, rfl, rfl, hv, HRUN.out⟩
                  case measure => simp; omega
              · have hg : g = false := by
                  cases g
                  · rfl
                  · exact absurd (.inl rfl) ho
                subst hg
                have ho2 := b10_le (fun h => ho (.inr h))
                have HRUN := Lib.hid (show run ((L b).drop (pos + 1)) (k - ((pos + 1 : Nat) : Int)) (10 * v + ((b[pos]'hlt).toNat - 48)) (decide (BB < 10 * v + ((b[pos]'hlt).toNat - 48))) = run (L b) k 0 false by
                  rw [← hrun, run_dig (by omega) hd (fun h => ho (.inr h)), ek, edv])
                clear hrun edv ho
                generalize (b[pos]'hlt).toNat = c at *
                go_wp2_with (go_at_call 115; refine (isDigit_is _ true HNE.out _).mono ?_; rintro e w' ⟨rfl, rfl⟩)
                go_roundw
                case rel => exact ⟨pos + 1, 10 * v + (c - 48), _, hlt, rfl, by congr 1; omega, rfl, by omega, by rw [← HRUN.out]; congr 1; exact decide_eq_decide.2 (by unfold BB; omega)⟩
                case measure => simp; omega
        · rw [List.drop_of_length_le (by rw [L_length]; omega), run] at hrun
          have HN := Lib.hid hrun.symm
          clear hrun
          have hnx : ∀ ty, (Instr.next (.pointer (some ⟨w.heap.size, 0, none⟩)) true ty).run Tryz.prog (w.iter b pos) = _ := fun ty => run_next_end w b pos ty hlt
          have hz : v = 0 ∨ v ≠ 0 := by omega
          cases neg <;> cases g <;> rcases hz with rfl | hz
          all_goals
            have HF := Lib.hid (HB.out.trans (congrArg (finR _) HN.out))
            go_wp2_with fail
            go_ret2
            exact ⟨by rw [HP.out]; exact ret_pair (by rw [HF.out]; first | (simp [finR, signed]; done) | (simp [finR, signed, hz]; done)), (Kept.refl _).alloc _⟩
end Go.Proofs.YtdnjfpmngnkcfaaGreatDoor
