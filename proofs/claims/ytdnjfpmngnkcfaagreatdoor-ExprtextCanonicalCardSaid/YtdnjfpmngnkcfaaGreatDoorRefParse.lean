/- What the reference's parsers of numbers compute. -/
import Derived.Test.YtdnjfpmngnkcfaaGreatDoorParse
namespace Go.Proofs.YtdnjfpmngnkcfaaGreatDoor
open Go.RowKit

def adB (l : List UInt8) : Bool := decide (0 < l.length) && digB l
def numR (l : List UInt8) (neg : Bool) : Int × Int := if 19 < l.length then (0, 3) else if BB < val l 0 then (0, 3) else (signed neg (val l 0), 0)
def refI (l : List UInt8) : Int × Int :=
  if adB (bodyL l) = false ∨ badL (bodyL l) (bodyL l).length = true ∨ (negB l = true ∧ bodyL l = [48]) then (0, 2) else numR (bodyL l) (negB l)
def strip : List UInt8 → List UInt8
  | c :: d :: r => if c = 48 then strip (d :: r) else c :: d :: r
  | l => l

theorem key_byte (c : UInt8) (z : Nat) (hz : z < 256) : (some c == some (UInt8.ofNat z)) = decide (c.toNat = z) := by
  have e : (UInt8.ofNat z).toNat = z := by rw [UInt8.toNat_ofNat']; omega
  by_cases hc : c = UInt8.ofNat z
  · rw [hc, e]; simp
  · have : c.toNat ≠ z := fun h => hc (UInt8.toNat_inj.1 (by rw [h, e]))
    simp [hc, this]
theorem ext_size01 (s : ByteArray) (a b : Nat) (h : b ≤ s.size) : (s.extract a b).size = b - a := by
  rw [ByteArray.size_extract]; omega
theorem L_head (s : ByteArray) (h : 0 < s.size) : (L s).head? = some (s[0]'h) := by rw [← L_get s 0 h, List.head?_eq_getElem?]

theorem val_19 {l : List UInt8} (h : l.all isDig = true) (hl : l.length ≤ 19) : val l 0 < 10000000000000000000 :=
  Nat.lt_of_lt_of_le (val_lt h) (Nat.pow_le_pow_right (by decide) hl)
theorem val_18 {l : List UInt8} (h : l.all isDig = true) (hl : l.length ≤ 18) : val l 0 < 1000000000000000000 :=
  Nat.lt_of_lt_of_le (val_lt h) (Nat.pow_le_pow_right (by decide) hl)

end Go.Proofs.YtdnjfpmngnkcfaaGreatDoor
