/- What date.digits and the reference's Digits compute. -/
import Derived.Test.YtdnjfpmngnkcfaaGreatDoorStr
namespace Go.Proofs.YtdnjfpmngnkcfaaGreatDoor
open Go.RowKit

theorem iter_kept {a w : World} (h : Kept a w) (s : ByteArray) (p : Nat) : Kept a (w.iter s p) := h.alloc _
theorem dig_ret {l : List UInt8} {v : Int} {b : Bool} (h1 : digV l = v) (h2 : digB l = b) : Ending.returned (.tuple #[.int .i64 v, .bool b]) = .returned (.tuple #[.int .i64 (digV l), .bool (digB l)]) := by rw [h1, h2]

set_option maxHeartbeats 1000000 in
theorem digits_any (s : ByteArray) (hs : s.size ≤ 9) (w : World) :
    Calls Tryz.prog 95 #[.string s] w fun e w' => e = .returned (.tuple #[.int .i64 (digV (L s)), .bool (digB (L s))]) ∧ Kept w w' := by
  go_enter Tryz.func95, Tryz.ntmps95
  go_wp2
  go_loopw [4] (fun n w' => ∃ pos : Nat, pos ≤ s.size ∧ w' = w.iter s pos ∧ n = .int .i64 (val ((L s).take pos) 0 : Nat) ∧ ((L s).take pos).all isDig = true) (fun _ w' => s.size - w'.iterPos w.heap.size)
  case atStart => exact ⟨0, Nat.zero_le _, rfl, rfl, rfl⟩
  case round =>
    obtain ⟨pos, hps, rfl, rfl, hall⟩ := hrel
    by_cases hp : pos < s.size
    · have hv := val_lt9 hall (by simp; omega)
      cases hd : isDig s[pos]
      · have HV := Lib.hid (digV_no (not_dig hp hd))
        have HB := Lib.hid (show digB (L s) = false from not_dig hp hd)
        have hr : (Utf8.decode s pos).1 < 48 ∨ (48 ≤ (Utf8.decode s pos).1 ∧ 57 < (Utf8.decode s pos).1) := by
          by_cases ha : (s[pos]'hp).toNat < 128
          · rw [decode_ascii s pos hp ha]
            have hd' : ¬ (48 ≤ s[pos].toNat ∧ s[pos].toNat ≤ 57) := fun h => by rw [isDig_iff.2 h] at hd; cases hd
            simp only; omega
          · have := (decode_high s pos hp (by omega)).1
            omega
        have hle := decode_le s pos
        have hnx : ∀ ty, (Instr.next (.pointer (some ⟨w.heap.size, 0, none⟩)) true ty).run Tryz.prog (w.iter s pos) = _ := fun ty => run_next_any w s pos ty hp
        generalize (Utf8.decode s pos).1 = r at *
        rcases hr with h | ⟨h, h'⟩
        all_goals
          go_wp2
          go_ret2
          exact ⟨dig_ret HV.out HB.out, iter_kept (Kept.refl _) _ _⟩
      · have hd' := isDig_iff.1 hd
        have e : val ((L s).take (pos + 1)) 0 = 10 * val ((L s).take pos) 0 + dval s[pos] := by rw [L_take s pos hp, val_snoc]
        have e2 : dval s[pos] = s[pos].toNat - 48 := rfl
        have e3 : ((L s).take (pos + 1)).all isDig = true := by rw [take_dig hp, hall, hd]; rfl
        have E := Lib.hid e
        have E3 := Lib.hid e3
        clear e e3
        generalize val ((L s).take pos) 0 = v at *
        have hnx : ∀ ty, (Instr.next (.pointer (some ⟨w.heap.size, 0, none⟩)) true ty).run Tryz.prog (w.iter s pos) = _ := fun ty => run_next_ascii w s pos ty hp (by omega)
        generalize hb : s[pos].toNat = b at *
        go_wp2
        go_roundw
        case rel => exact ⟨pos + 1, hp, rfl, by rw [E.out, e2]; congr 1; omega, E3.out⟩
        case measure => simp; omega
    · rw [L_take_all s pos hp] at hall ⊢
      have HV := Lib.hid (digV_yes (l := L s) hall)
      have HB := Lib.hid (show digB (L s) = true from hall)
      have hnx : ∀ ty, (Instr.next (.pointer (some ⟨w.heap.size, 0, none⟩)) true ty).run Tryz.prog (w.iter s pos) = _ := fun ty => run_next_end w s pos ty hp
      generalize val (L s) 0 = v at *
      go_wp2
      go_ret2
      exact ⟨dig_ret HV.out HB.out, iter_kept (Kept.refl _) _ _⟩

end Go.Proofs.YtdnjfpmngnkcfaaGreatDoor
