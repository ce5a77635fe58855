/- What SplitLines of package numtext, and of the reference, computes. -/
import Derived.Test.YtdnjfpmngnkcfaaGreatDoorStrs
namespace Go.Proofs.YtdnjfpmngnkcfaaGreatDoor
open Go.RowKit

def okC (c : UInt8) : Bool := c == 9 || (decide (32 ≤ c.toNat) && decide (c.toNat ≤ 126))
def lns (s : ByteArray) : List UInt8 → Nat → Nat → Option (List ByteArray × Nat)
  | [], _, st => some ([], st)
  | c :: r, pos, st => if c = 10 then (lns s r (pos + 1) (pos + 1)).map (fun p => (s.extract st pos :: p.1, p.2)) else if okC c then lns s r (pos + 1) st else none
/-- the lines of a text, and the code -/
def linR (s : ByteArray) : List ByteArray × Int :=
  if 65536 < s.size then ([], 4) else match lns s (L s) 0 0 with
    | none => ([], 2)
    | some (l, e) => if e = s.size then (l, 0) else ([], 2)
theorem lns_end (s : ByteArray) (pos st : Nat) : lns s [] pos st = some ([], st) := rfl
theorem lns_line {s : ByteArray} {r : List UInt8} {pos st : Nat} (c : UInt8) (h : c.toNat = 10) : lns s (c :: r) pos st = (lns s r (pos + 1) (pos + 1)).map (fun p => (s.extract st pos :: p.1, p.2)) := by
  rw [lns, if_pos (UInt8.toNat_inj.1 (show c.toNat = (10 : UInt8).toNat from h))]
theorem lns_ok {s : ByteArray} {r : List UInt8} {pos st : Nat} (c : UInt8) (h : c.toNat ≠ 10) (ho : c.toNat = 9 ∨ (32 ≤ c.toNat ∧ c.toNat ≤ 126)) : lns s (c :: r) pos st = lns s r (pos + 1) st := by
  rw [lns, if_neg (fun e => h (by rw [e]; rfl)), if_pos]
  unfold okC
  rcases ho with h9 | ⟨h1, h2⟩
  · rw [show c = 9 from UInt8.toNat_inj.1 h9]; rfl
  · simp [h1, h2]
theorem lns_bad {s : ByteArray} {r : List UInt8} {pos st : Nat} (c : UInt8) (h : c.toNat ≠ 10) (ho : ¬ (c.toNat = 9 ∨ (32 ≤ c.toNat ∧ c.toNat ≤ 126))) : lns s (c :: r) pos st = none := by
  rw [lns, if_neg (fun e => h (by rw [e]; rfl)), if_neg]
  unfold okC
  intro e
  rw [Bool.or_eq_true, beq_iff_eq, Bool.and_eq_true, decide_eq_true_eq, decide_eq_true_eq] at e
  rcases e with e | e
  · exact ho (.inl (by rw [e]; rfl))
  · exact ho (.inr e)

end Go.Proofs.YtdnjfpmngnkcfaaGreatDoor
