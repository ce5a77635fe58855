/- What the reference's parsers of numbers compute. -/
import Derived.Test.YtemejaomfbhldaaGreatDoorParse
namespace Go.Proofs.YtemejaomfbhldaaGreatDoor
open Go.RowKit

def adB (l : List UInt8) : Bool := decide (0 < l.length) && digB l
def numR (l : List UInt8) (neg : Bool) : Int × Int := if 19 < l.length then (0, 3) else if BB < val l 0 then (0, 3) else (signed neg (val l 0), 0)
def refI (l : List UInt8) : Int × Int :=
  if adB (bodyL l) = false ∨ badL (bodyL l) (bodyL l).length = true ∨ (negB l = true ∧ bodyL l = [48]) then (0, 2) else numR (bodyL l) (negB l)
def strip : List UInt8 → List UInt8
  | c :: d :: r => if c = 48 then strip (d :: r) else c :: d :: r
  | l => l

theorem key_byte (c : UInt8) (z : Nat) (hz : z < 256) : (some c == some (UInt8.ofNat z)) = decide (c.toNat = z) := by
  have e : (UInt8.ofNat z).toNat = z := by rw [UInt8.toNat_ofNat']; omega
  by_cases hc : c = UInt8.ofNat z
  · rw [hc, e]; simp
  · have : c.toNat ≠ z := fun h => hc (UInt8.toNat_inj.1 (by rw [h, e]))
    simp [hc, this]
theorem ext_size01 (s : ByteArray) (a b : Nat) (h : b ≤ s.size) : (s.extract a b).size = b - a := by
  rw [ByteArray.size_extract]; omega
theorem L_head (s : ByteArray) (h : 0 < s.size) : (L s).head? = some (s[0]'h) := by rw [← L_get s 0 h, List.head?_eq_getElem?]

set_option maxRecDepth 100000 in
set_option maxHeartbeats 1000000 in
theorem rsign_any (s : ByteArray) (w : World) :
    Calls Tryz.prog 89 #[.string s] w fun e w' => e = .returned (.tuple #[.string (bs (bodyL (L s))), .bool (negB (L s))]) ∧ w = w' := by
  by_cases h0 : 0 < s.size
  · have hh : negB (L s) = decide ((s[0]'h0).toNat = 45) := by
      unfold negB
      rw [L_head s h0]
      exact key_byte _ 45 (by omega)
    by_cases hc : (s[0]'h0).toNat = 45
    · have HN := Lib.hid (show negB (L s) = true by rw [hh]; simpa using hc)
      have HB := Lib.hid (show bs (bodyL (L s)) = s.extract 1 s.size by
        rw [bodyL, HN.out, if_pos rfl, ← List.drop_one, ← L_inj, L_bs, L_extract, List.take_of_length_le (by simp)])
      clear hh
      go_enter Tryz.func89, Tryz.ntmps89
      go_wp2_with fail
      go_ret2
      rw [HN.out, HB.out]
      exact ⟨rfl, rfl⟩
    · have HN := Lib.hid (show negB (L s) = false by rw [hh]; simpa using hc)
      have HB := Lib.hid (show bs (bodyL (L s)) = s by rw [bodyL, HN.out, if_neg (by decide), bs_L])
      have h3 : (((s[0]'h0).toNat : Int) == 45) = false := by rw [beq_eq_false_iff_ne]; omega
      clear hh
      go_enter Tryz.func89, Tryz.ntmps89
      go_wp2_with fail
      go_ret2
      rw [HN.out, HB.out]
      exact ⟨rfl, rfl⟩
  · have hl : L s = [] := List.length_eq_zero_iff.1 (by rw [L_length]; omega)
    have HN := Lib.hid (show negB (L s) = false by rw [hl]; rfl)
    have HB := Lib.hid (show bs (bodyL (L s)) = s by rw [bodyL, HN.out, if_neg (by decide), bs_L])
    clear hl
    go_enter Tryz.func89, Tryz.ntmps89
    go_wp2_with fail
    go_ret2
    rw [HN.out, HB.out]
    exact ⟨rfl, rfl⟩

set_option maxRecDepth 100000 in
set_option maxHeartbeats 1000000 in
theorem rallDigits_any (s : ByteArray) (hs : s.size ≤ 1000000) (w : World) :
    Calls Tryz.prog 108 #[.string s] w fun e w' => e = .returned (.bool (adB (L s))) ∧ w = w' := by
  go_enter Tryz.func108, Tryz.ntmps108
  go_wp2
  go_loop [3] (fun i => ∃ pos : Nat, pos ≤ s.size ∧ i = .int .i64 pos ∧ ((L s).take pos).all isDig = true) (fun i => (s.size - intOf i).toNat)
  case atStart => exact ⟨0, Nat.zero_le _, rfl, rfl⟩
  case round =>
    obtain ⟨pos, hps, rfl, hall⟩ := hrel
    by_cases hp : pos < s.size
    · cases hd : isDig (s[pos]'hp)
      · have HV := Lib.hid (show adB (L s) = false by rw [adB, digB, not_dig hp hd]; simp)
        have hr : (s[pos]'hp).toNat < 48 ∨ (48 ≤ (s[pos]'hp).toNat ∧ 57 < (s[pos]'hp).toNat) := by
          have hd' : ¬ (48 ≤ s[pos].toNat ∧ s[pos].toNat ≤ 57) := fun h => by rw [isDig_iff.2 h] at hd; cases hd
          omega
        rcases hr with h | ⟨h, h'⟩
        all_goals
          go_wp2
          go_ret
          exact ⟨ret_bool HV.out.symm, rfl⟩
      · have hd' := isDig_iff.1 hd
        have E3 := Lib.hid (show ((L s).take (pos + 1)).all isDig = true by rw [take_dig hp, hall, hd]; rfl)
        go_wp2
        go_round
        case rel => exact ⟨pos + 1, hp, rfl, E3.out⟩
        case measure => simp only [intOf]; omega
    · rw [L_take_all s pos hp] at hall
      have HV := Lib.hid (show adB (L s) = decide (0 < s.size) by rw [adB, digB, hall, Bool.and_true, L_length])
      clear hall
      go_wp2
      go_ret
      exact ⟨ret_bool (by rw [HV.out]), rfl⟩

theorem val_19 {l : List UInt8} (h : l.all isDig = true) (hl : l.length ≤ 19) : val l 0 < 10000000000000000000 :=
  Nat.lt_of_lt_of_le (val_lt h) (Nat.pow_le_pow_right (by decide) hl)
theorem val_18 {l : List UInt8} (h : l.all isDig = true) (hl : l.length ≤ 18) : val l 0 < 1000000000000000000 :=
  Nat.lt_of_lt_of_le (val_lt h) (Nat.pow_le_pow_right (by decide) hl)

set_option maxRecDepth 100000 in
set_option maxHeartbeats 2000000 in
theorem rnumber_any (s : ByteArray) (neg : Bool) (hs : s.size ≤ 1000000) (hd : digB (L s) = true) (w : World) :
    Calls Tryz.prog 109 #[.string s, .bool neg] w fun e w' => e = .returned (.tuple #[.int .i64 (numR (L s) neg).1, .int .i64 (numR (L s) neg).2]) ∧ w = w' := by
  by_cases h19 : 19 < s.size
  · have HR := Lib.hid (show numR (L s) neg = (0, 3) by rw [numR, L_length, if_pos h19])
    clear hd
    go_enter Tryz.func109, Tryz.ntmps109
    go_wp2_with fail
    go_ret2
    exact ⟨ret_pair HR.out, rfl⟩
  · have hdig : ∀ (i : Nat) (h : i < s.size), isDig (s[i]'h) = true := fun i h => by
      have := take_dig h
      have h2 : ((L s).take (i + 1)).all isDig = true := by
        rw [List.all_eq_true] at *
        intro x hx
        exact (by unfold digB at hd; rw [List.all_eq_true] at hd; exact hd x (List.mem_of_mem_take hx))
      rw [this] at h2
      exact (Bool.and_eq_true _ _ ▸ h2).2
    have HALL := Lib.hid hd
    have hmax := val_19 hd (by rw [L_length]; omega)
    go_enter Tryz.func109, Tryz.ntmps109
    go_wp2_with fail
    go_loop [6, 7] (fun n i => ∃ pos : Nat, pos ≤ s.size ∧ i = .int .i64 pos ∧ n = .int .u64 (val ((L s).take pos) 0 : Nat)) (fun _ i => (s.size - intOf i).toNat)
    case atStart => exact ⟨0, Nat.zero_le _, rfl, rfl⟩
    case round =>
      obtain ⟨pos, hps, rfl, rfl⟩ := hrel
      by_cases hp : pos < s.size
      · have hd' := isDig_iff.1 (hdig pos hp)
        have hall : ((L s).take pos).all isDig = true := by
          have h := HALL.out
          unfold digB at h
          rw [List.all_eq_true] at *
          exact fun x hx => h x (List.mem_of_mem_take hx)
        have hv := val_18 hall (by simp; omega)
        have E := Lib.hid (show val ((L s).take (pos + 1)) 0 = 10 * val ((L s).take pos) 0 + dval (s[pos]'hp) by rw [L_take s pos hp, val_snoc])
        have e2 : dval (s[pos]'hp) = (s[pos]'hp).toNat - 48 := rfl
        clear hdig hall hmax
        generalize val ((L s).take pos) 0 = v at *
        go_wp2_with fail
        go_round
        case rel => exact ⟨pos + 1, hp, rfl, by rw [E.out, e2]; congr 1; omega⟩
        case measure => simp only [intOf]; omega
      · clear hdig
        rw [L_take_all s pos hp]
        by_cases hb : BB < val (L s) 0
        · have HR := Lib.hid (show numR (L s) neg = (0, 3) by rw [numR, L_length, if_neg h19, if_pos hb])
          have hb' : 4611686018427387904 < val (L s) 0 := hb
          clear hb
          generalize val (L s) 0 = v at *
          go_wp2_with fail
          go_ret2
          exact ⟨ret_pair HR.out, rfl⟩
        · have HR := Lib.hid (show numR (L s) neg = (signed neg (val (L s) 0), 0) by rw [numR, L_length, if_neg h19, if_neg hb])
          have hb' : val (L s) 0 ≤ 4611686018427387904 := by unfold BB at hb; omega
          clear hb
          generalize val (L s) 0 = v at *
          cases neg
          all_goals
            go_wp2_with fail
            go_ret2
            exact ⟨ret_pair (by rw [HR.out]; rfl), rfl⟩
end Go.Proofs.YtemejaomfbhldaaGreatDoor
