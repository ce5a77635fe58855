/- The text of code: mnemonics, lines, what is read back. -/
import Derived.Test.YtnoegcdogcbhbaaDoorBcMath
import Derived.Test.YtnoegcdogcbhbaaDoorLineMath
namespace Go.Proofs.YtnoegcdogcbhbaaDoor
open Go.RowKit

/-- the mnemonics -/
def mnT : List (List UInt8) := [
  [],
  [98, 111, 111, 108],
  [105, 110, 116],
  [109, 111, 110, 101, 121],
  [114, 97, 116, 101],
  [100, 97, 116, 101],
  [101, 110, 117, 109],
  [105, 110, 112, 117, 116],
  [100, 101, 102],
  [99, 97, 115, 101, 100, 97, 116, 101],
  [110, 101, 103],
  [97, 100, 100],
  [115, 117, 98],
  [109, 117, 108],
  [109, 117, 108, 114, 97, 116, 101],
  [100, 105, 118],
  [114, 111, 117, 110, 100, 116, 111],
  [109, 105, 110],
  [109, 97, 120],
  [101, 113],
  [110, 101],
  [108, 116],
  [108, 101],
  [],
  [],
  [110, 111, 116],
  [],
  [97, 100, 100, 100, 97, 121, 115],
  [97, 100, 100, 109, 111, 110, 116, 104, 115],
  [100, 97, 121, 115, 98, 101, 116, 119, 101, 101, 110],
  [121, 101, 97, 114, 115, 98, 101, 116, 119, 101, 101, 110],
  [121, 101, 97, 114],
  [109, 111, 110, 116, 104],
  [108, 111, 111, 107, 117, 112],
  [98, 114, 97, 99, 107, 101, 116, 115],
  [99, 111, 117, 110, 116],
  [115, 117, 109],
  [97, 108, 108],
  [97, 110, 121],
  [109, 111, 115, 116],
  [],
  [],
  [],
  [],
  [],
  [],
  [],
  [],
  [],
  [],
  [106, 117, 109, 112, 102, 97, 108, 115, 101],
  [106, 117, 109, 112],
  [97, 110, 100, 106, 117, 109, 112],
  [111, 114, 106, 117, 109, 112]]
def mnS (op : Int) : List UInt8 := if 0 ≤ op then mnT[op.toNat]?.getD [] else []
theorem mnS_nat (k : Nat) : mnS k = mnT[k]?.getD [] := by rw [mnS, if_pos (by omega), Int.toNat_natCast]
theorem mnS_out {op : Int} (h : op < 0 ∨ 53 < op) : mnS op = [] := by
  unfold mnS
  split
  · rw [List.getElem?_eq_none (by show 54 ≤ _; omega)]; rfl
  · rfl
/-- the operation of a mnemonic, or 0 -/
def opOf (w : List UInt8) : Nat := ((List.range 54).find? fun k => (mnT[k]?.getD [] == w) && (k != 0)).getD 0
theorem opOf_at {w : List UInt8} {p : Nat} (h1 : 1 ≤ p) (h53 : p ≤ 53) (hp : mnS p = w) (hn : ∀ m : Nat, 1 ≤ m → m < p → mnS m ≠ w) : opOf w = p := by
  unfold opOf
  rw [(List.find?_range_eq_some).2 (show _ ∧ _ ∧ _ from ⟨?_, ?_, ?_⟩)]
  · rfl
  · rw [mnS_nat] at hp
    simp only [Bool.and_eq_true, beq_iff_eq, bne_iff_ne, ne_eq]
    exact ⟨hp, by omega⟩
  · simp; omega
  · intro m hm
    by_cases h0 : m = 0
    · subst h0; simp
    · have := hn m (by omega) hm
      rw [mnS_nat] at this
      simp [this]
theorem opOf_no {w : List UInt8} (hn : ∀ m : Nat, 1 ≤ m → m < 54 → mnS m ≠ w) : opOf w = 0 := by
  unfold opOf
  rw [List.find?_eq_none.2]
  · rfl
  · intro m hm
    have hlt : m < 54 := by simpa using hm
    by_cases h0 : m = 0
    · subst h0; simp
    · have := hn m (by omega) hlt
      rw [mnS_nat] at this
      simp [this]
theorem opOf_mn {w : List UInt8} (h : opOf w ≠ 0) : mnS (opOf w) = w := by
  unfold opOf at h ⊢
  cases hf : (List.range 54).find? fun k => (mnT[k]?.getD [] == w) && (k != 0) with
  | none => rw [hf] at h; exact absurd rfl h
  | some k =>
    have := List.find?_some hf
    simp only [Bool.and_eq_true, beq_iff_eq] at this
    rw [Option.getD_some, mnS_nat]
    exact this.1
theorem mn_inj : ∀ i j : Nat, i < 54 → j < 54 → mnT[i]?.getD [] = mnT[j]?.getD [] → mnT[i]?.getD [] ≠ [] → i = j := by
  have h : ((List.range 54).all fun i => (List.range 54).all fun j => (mnT[i]?.getD [] != mnT[j]?.getD []) || (mnT[i]?.getD [] == []) || (i == j)) = true := by kernel_rfl
  intro i j hi hj e hne
  rw [List.all_eq_true] at h
  have h1 := h i (by simpa using hi)
  rw [List.all_eq_true] at h1
  have h2 := h1 j (by simpa using hj)
  simp only [Bool.or_eq_true, bne_iff_ne, ne_eq, beq_iff_eq] at h2
  rcases h2 with (h2 | h2) | h2
  · exact absurd e h2
  · exact absurd h2 hne
  · exact h2
theorem opOf_of {op : Int} (h : mnS op ≠ []) : ((opOf (mnS op) : Nat) : Int) = op := by
  have hb : 0 ≤ op ∧ op ≤ 53 := by
    by_cases h0 : op < 0 ∨ 53 < op
    · exact absurd (mnS_out h0) h
    · omega
  obtain ⟨p, rfl⟩ : ∃ p : Nat, op = p := ⟨op.toNat, by omega⟩
  have h1 : 1 ≤ p := by
    rcases Nat.eq_zero_or_pos p with rfl | h1
    · exact absurd rfl h
    · exact h1
  rw [opOf_at h1 (by omega) rfl (fun m hm1 hm2 e => ?_)]
  rw [mnS_nat, mnS_nat] at e
  rw [mnS_nat] at h
  have := mn_inj p m (by omega) (by omega) e.symm h
  omega
end Go.Proofs.YtnoegcdogcbhbaaDoor
