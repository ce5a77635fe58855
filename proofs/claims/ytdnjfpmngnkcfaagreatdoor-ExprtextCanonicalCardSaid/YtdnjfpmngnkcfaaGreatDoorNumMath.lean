/- Plain facts about decimal numerals as lists of bytes: what numtext's formatter and parser, and the reference's, compute. No program stands here. -/
import Derived.Lib.ItoaNum
namespace Go.Proofs.YtdnjfpmngnkcfaaGreatDoor
open Go.Lib (decDigits itoa)

def isDig (c : UInt8) : Bool := decide (48 ≤ c.toNat) && decide (c.toNat ≤ 57)
def dval (c : UInt8) : Nat := c.toNat - 48
/-- the number that a list of digits denotes -/
def val : List UInt8 → Nat → Nat
  | [], acc => acc
  | c :: r, acc => val r (10 * acc + dval c)
theorem val_append (a b : List UInt8) (acc : Nat) : val (a ++ b) acc = val b (val a acc) := by
  induction a generalizing acc with
  | nil => rfl
  | cons c r ih => exact ih _
theorem val_snoc (a : List UInt8) (c : UInt8) (acc : Nat) : val (a ++ [c]) acc = 10 * val a acc + dval c := by
  rw [val_append]; rfl
theorem val_ge (l : List UInt8) (acc : Nat) : acc ≤ val l acc := by
  induction l generalizing acc with
  | nil => exact Nat.le_refl _
  | cons c r ih => exact Nat.le_trans (by omega) (ih _)
theorem val_acc (l : List UInt8) (acc : Nat) : val l acc = acc * 10 ^ l.length + val l 0 := by
  induction l generalizing acc with
  | nil => simp [val]
  | cons c r ih =>
    rw [val, val, ih (10 * acc + dval c), ih (10 * 0 + dval c)]
    simp only [List.length_cons, Nat.pow_succ]
    have e : (10 * acc + dval c) * 10 ^ r.length = acc * (10 ^ r.length * 10) + dval c * 10 ^ r.length := by
      rw [Nat.add_mul, Nat.mul_comm 10 acc, Nat.mul_assoc, Nat.mul_comm 10 (10 ^ r.length)]
    rw [e]
    have e2 : (10 * 0 + dval c) * 10 ^ r.length = dval c * 10 ^ r.length := by simp
    omega

theorem ofNat_toNat_dig {d : Nat} (h : d < 10) : (UInt8.ofNat (48 + d)).toNat = 48 + d := by
  rw [UInt8.toNat_ofNat']; omega
theorem isDig_of {d : Nat} (h : d < 10) : isDig (UInt8.ofNat (48 + d)) = true := by
  unfold isDig; rw [ofNat_toNat_dig h]; simp; omega
theorem dval_of {d : Nat} (h : d < 10) : dval (UInt8.ofNat (48 + d)) = d := by
  unfold dval; rw [ofNat_toNat_dig h]; omega
theorem isDig_iff {c : UInt8} : isDig c = true ↔ 48 ≤ c.toNat ∧ c.toNat ≤ 57 := by simp [isDig]
theorem dval_lt {c : UInt8} (h : isDig c = true) : dval c < 10 := by
  have := isDig_iff.1 h; unfold dval; omega
theorem of_dval {c : UInt8} (h : isDig c = true) : UInt8.ofNat (48 + dval c) = c := by
  have h' := isDig_iff.1 h
  apply UInt8.toNat_inj.1
  rw [ofNat_toNat_dig (dval_lt h)]
  unfold dval; omega

theorem decDigits_all (u : Nat) : (decDigits u).all isDig = true := by
  induction u using Nat.strongRecOn with
  | _ u ih =>
    rw [decDigits]
    split
    · rename_i h; simpa using isDig_of h
    · rename_i h
      rw [List.all_append, ih (u / 10) (by omega)]
      simpa using isDig_of (Nat.mod_lt u (by decide))
theorem val_decDigits (u : Nat) : val (decDigits u) 0 = u := by
  induction u using Nat.strongRecOn with
  | _ u ih =>
    rw [decDigits]
    split
    · rename_i h; rw [val, val, dval_of h]; omega
    · rename_i h
      rw [val_snoc, ih (u / 10) (by omega), dval_of (Nat.mod_lt u (by decide))]
      omega
theorem decDigits_ne (u : Nat) : decDigits u ≠ [] := by
  rw [decDigits]; split <;> simp
/-- no superfluous zero ahead -/
def lead (l : List UInt8) : Bool := l.length == 1 || l.head? != some 48
theorem lead_iff {l : List UInt8} : lead l = true ↔ l.length = 1 ∨ l.head? ≠ some 48 := by simp [lead]
theorem decDigits_head (u : Nat) (h : 10 ≤ u) : (decDigits u).head? ≠ some 48 := by
  induction u using Nat.strongRecOn with
  | _ u ih =>
    rw [decDigits, dif_neg (by omega)]
    rw [List.head?_append]
    by_cases h2 : u / 10 < 10
    · rw [decDigits, dif_pos h2]
      simp only [List.head?_cons, Option.some_or]
      intro e
      have e1 : UInt8.ofNat (48 + u / 10) = 48 := Option.some.inj e
      have := ofNat_toNat_dig h2
      rw [e1] at this
      have e3 : (48 : UInt8).toNat = 48 := rfl
      omega
    · have := ih (u / 10) (by omega) (by omega)
      cases hd : (decDigits (u / 10)).head? with
      | none => rw [List.head?_eq_none_iff] at hd; exact absurd hd (decDigits_ne _)
      | some x => rw [hd] at this; simpa using this
theorem decDigits_lead (u : Nat) : lead (decDigits u) = true := by
  rw [lead_iff]
  by_cases h : u < 10
  · left; rw [decDigits, dif_pos h]; rfl
  · right; exact decDigits_head u (by omega)
theorem val_pos {l : List UInt8} (hd : l.all isDig = true) (hh : l.head? ≠ some 48) (hn : l ≠ []) : 10 ^ (l.length - 1) ≤ val l 0 := by
  cases l with
  | nil => exact absurd rfl hn
  | cons c r =>
    rw [val, val_acc]
    simp only [List.all_cons, Bool.and_eq_true] at hd
    have h1 := isDig_iff.1 hd.1
    have h2 : c ≠ 48 := fun e => hh (by rw [e]; rfl)
    have h3 : 1 ≤ dval c := by
      unfold dval
      have : c.toNat ≠ 48 := fun e => h2 (UInt8.toNat_inj.1 e)
      omega
    simp only [List.length_cons, Nat.add_sub_cancel]
    have := Nat.mul_le_mul_right (10 ^ r.length) (show 1 ≤ 10 * 0 + dval c by omega)
    omega
/-- digits without a superfluous zero are the numeral of their number -/
theorem decDigits_val (l : List UInt8) (hd : l.all isDig = true) (hl : lead l = true) (hn : l ≠ []) : decDigits (val l 0) = l := by
  obtain ⟨n, hlen⟩ : ∃ n, l.length = n + 1 := ⟨l.length - 1, by have := List.length_pos_iff.2 hn; omega⟩
  induction n generalizing l with
  | zero =>
    match l, hlen with
    | [c], _ =>
      simp only [List.all_cons, List.all_nil, Bool.and_true] at hd
      simp only [val, Nat.mul_zero, Nat.zero_add]
      rw [decDigits, dif_pos (dval_lt hd), of_dval hd]
  | succ n ih =>
    have hs : l = l.dropLast ++ [l.getLast hn] := (List.dropLast_concat_getLast hn).symm
    have hll : l.dropLast.length = n + 1 := by simp; omega
    have hdn : l.dropLast ≠ [] := fun e => by rw [e] at hll; simp at hll
    have hall : l.dropLast.all isDig = true ∧ isDig (l.getLast hn) = true := by
      rw [hs, List.all_append] at hd
      simpa using hd
    have hh : l.head? ≠ some 48 := by
      rcases lead_iff.1 hl with h | h
      · omega
      · exact h
    have hh2 : l.dropLast.head? ≠ some 48 := by
      rw [hs, List.head?_append] at hh
      cases hq : l.dropLast.head? with
      | none => rw [List.head?_eq_none_iff] at hq; exact absurd hq hdn
      | some x => rw [hq] at hh; simpa using hh
    have hv := val_pos hall.1 hh2 hdn
    have hpos : 1 ≤ 10 ^ (l.dropLast.length - 1) := Nat.one_le_pow _ _ (by decide)
    have e := ih l.dropLast hall.1 (lead_iff.2 (.inr hh2)) hdn hll
    rw [hs, val_snoc]
    have hlt := dval_lt hall.2
    rw [decDigits, dif_neg (by omega), show (10 * val l.dropLast 0 + dval (l.getLast hn)) / 10 = val l.dropLast 0 by omega, e,
      show (10 * val l.dropLast 0 + dval (l.getLast hn)) % 10 = dval (l.getLast hn) by omega, of_dval hall.2]
end Go.Proofs.YtdnjfpmngnkcfaaGreatDoor
