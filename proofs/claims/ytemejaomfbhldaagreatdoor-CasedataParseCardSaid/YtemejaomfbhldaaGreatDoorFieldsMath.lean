/- The words of a string, and the width of a rune. No program stands here. -/
import Derived.Test.YtemejaomfbhldaaGreatDoorStrs
namespace Go.Proofs.YtemejaomfbhldaaGreatDoor

theorem get_in (s : ByteArray) (i : Nat) (h : i < s.size) : s.get! i = s[i]'h := by
  simp [ByteArray.get!, getElem!_pos, h]
  rfl
/-- a rune that is not ASCII is made of bytes that are not ASCII -/
theorem decode_bytes (s : ByteArray) (pos : Nat) (h : pos < s.size) (ha : 128 ≤ (s[pos]'h).toNat) :
    1 ≤ (Utf8.decode s pos).2 ∧ ∀ j, j < (Utf8.decode s pos).2 → ∃ hj : pos + j < s.size, 128 ≤ (s[pos + j]'hj).toNat := by
  have h0 : ∃ hj : pos + 0 < s.size, 128 ≤ (s[pos + 0]'hj).toNat := ⟨h, ha⟩
  have hcont : ∀ k, (decide (pos + k < s.size) && (s.get! (pos + k)).toNat / 64 == 2) = true → ∃ hj : pos + k < s.size, 128 ≤ (s[pos + k]'hj).toNat := by
    intro k hk
    rw [Bool.and_eq_true, decide_eq_true_eq, beq_iff_eq] at hk
    refine ⟨hk.1, ?_⟩
    have := hk.2
    rw [get_in s (pos + k) hk.1] at this
    omega
  have key : ∀ n, (∀ j, j < n → ∃ hj : pos + j < s.size, 128 ≤ (s[pos + j]'hj).toNat) → True := fun _ _ => trivial
  unfold Utf8.decode
  dsimp only
  have one : ∀ x : Nat, 1 ≤ (x, 1).2 ∧ ∀ j, j < (x, 1).2 → ∃ hj : pos + j < s.size, 128 ≤ (s[pos + j]'hj).toNat := by
    intro x
    refine ⟨Nat.le_refl _, fun j hj => ?_⟩
    have : j = 0 := by simp only at hj; omega
    subst this; exact h0
  split
  · rename_i hlt
    rw [show pos + 0 = pos from rfl, get_in s pos h] at hlt
    omega
  · split
    · rename_i hc
      rw [Bool.and_eq_true] at hc
      have c1 := hcont 1 hc.2
      split
      · refine ⟨by simp only; omega, fun j hj => ?_⟩
        simp only at hj
        match j, hj with
        | 0, _ => exact h0
        | 1, _ => exact c1
      · exact one _
    · split
      · rename_i hc
        rw [Bool.and_eq_true, Bool.and_eq_true] at hc
        have c1 := hcont 1 hc.1.2
        have c2 := hcont 2 hc.2
        split
        · refine ⟨by simp only; omega, fun j hj => ?_⟩
          simp only at hj
          match j, hj with
          | 0, _ => exact h0
          | 1, _ => exact c1
          | 2, _ => exact c2
        · exact one _
      · split
        · rename_i hc
          rw [Bool.and_eq_true, Bool.and_eq_true, Bool.and_eq_true] at hc
          have c1 := hcont 1 hc.1.1.2
          have c2 := hcont 2 hc.1.2
          have c3 := hcont 3 hc.2
          split
          · refine ⟨by simp only; omega, fun j hj => ?_⟩
            simp only at hj
            match j, hj with
            | 0, _ => exact h0
            | 1, _ => exact c1
            | 2, _ => exact c2
            | 3, _ => exact c3
          · exact one _
        · exact one _

def blank (c : UInt8) : Bool := c == 32 || c == 9
theorem blank_iff {c : UInt8} : blank c = true ↔ c.toNat = 32 ∨ c.toNat = 9 := by
  unfold blank
  rw [Bool.or_eq_true, beq_iff_eq, beq_iff_eq]
  constructor
  · rintro (h | h) <;> subst h
    · exact .inl rfl
    · exact .inr rfl
  · rintro (h | h)
    · exact .inl (UInt8.toNat_inj.1 (show c.toNat = (32 : UInt8).toNat from h))
    · exact .inr (UInt8.toNat_inj.1 (show c.toNat = (9 : UInt8).toNat from h))
/-- the words from position pos on, one begun at st if st is no negative number -/
def flds (s : ByteArray) : List UInt8 → Nat → Int → List ByteArray
  | [], _, st => if 0 ≤ st then [s.extract st.toNat s.size] else []
  | c :: r, pos, st =>
    if blank c then (if 0 ≤ st then s.extract st.toNat pos :: flds s r (pos + 1) (-1) else flds s r (pos + 1) (-1))
    else flds s r (pos + 1) (if st < 0 then pos else st)
def fldS (s : ByteArray) : List ByteArray := flds s (L s) 0 (-1)
theorem flds_word {s : ByteArray} {c : UInt8} {r : List UInt8} {pos : Nat} {st : Int} (h : blank c = true) (h0 : 0 ≤ st) : flds s (c :: r) pos st = s.extract st.toNat pos :: flds s r (pos + 1) (-1) := by
  rw [flds, if_pos h, if_pos h0]
theorem flds_gap {s : ByteArray} {c : UInt8} {r : List UInt8} {pos : Nat} {st : Int} (h : blank c = true) (h0 : st < 0) : flds s (c :: r) pos st = flds s r (pos + 1) (-1) := by
  rw [flds, if_pos h, if_neg (by omega)]
theorem flds_on {s : ByteArray} {c : UInt8} {r : List UInt8} {pos : Nat} {st : Int} (h : blank c = false) : flds s (c :: r) pos st = flds s r (pos + 1) (if st < 0 then pos else st) := by
  rw [flds, h]; rfl
/-- over a run of bytes that are no blanks -/
theorem flds_skip (s : ByteArray) (k : Nat) : ∀ (pos : Nat) (st : Int), 1 ≤ k → (∀ j, j < k → ∃ hj : pos + j < s.size, blank (s[pos + j]'hj) = false) →
    flds s ((L s).drop pos) pos st = flds s ((L s).drop (pos + k)) (pos + k) (if st < 0 then pos else st) := by
  induction k with
  | zero => intro pos st h; omega
  | succ k ih =>
    intro pos st _ hb
    obtain ⟨h0, b0⟩ := hb 0 (by omega)
    rw [L_drop s pos h0, flds_on (c := s[pos]'h0) b0]
    by_cases hk : k = 0
    · subst hk; rfl
    · rw [ih (pos + 1) _ (by omega) (fun j hj => by
        obtain ⟨hj', b⟩ := hb (j + 1) (by omega)
        exact ⟨by omega, by have e : pos + 1 + j = pos + (j + 1) := by omega
                            simp only [e]; exact b⟩)]
      rw [show pos + 1 + k = pos + (k + 1) by omega]
      congr 1
      by_cases hs : st < 0
      · rw [if_pos hs, if_neg (by omega)]
      · rw [if_neg hs, if_neg hs]
end Go.Proofs.YtemejaomfbhldaaGreatDoor
