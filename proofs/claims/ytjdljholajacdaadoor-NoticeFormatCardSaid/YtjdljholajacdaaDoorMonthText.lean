/- Plain facts: the text of a month, and what is read from one. No program stands here. -/
import Derived.Test.YtjdljholajacdaaDoorMonthMath
import Derived.Test.YtjdljholajacdaaDoorDateTextMath
namespace Go.Proofs.YtjdljholajacdaaDoor

/-- the text of a month -/
def monthS (m : Int) : ByteArray := if monB m then padS (mY m) 4 ++ ⟨#[45]⟩ ++ padS (mM m) 2 else ⟨#[]⟩
theorem monthS_yes {m : Int} (h : monB m = true) : monthS m = padS (mY m) 4 ++ ⟨#[45]⟩ ++ padS (mM m) 2 := by rw [monthS, if_pos h]
theorem monthS_no {m : Int} (h : monB m = false) : monthS m = ⟨#[]⟩ := by rw [monthS, h]; rfl
/-- is a string of the form YYYY-MM -/
def mformB (s : ByteArray) : Bool := decide (s.size = 7) && ((L s)[4]? == some 45 && (digB (L (s.extract 0 4)) && digB (L (s.extract 5 7))))
def mres (y m : Int) : Int × Int := if 1 ≤ m ∧ m ≤ 12 ∧ 1900 ≤ y ∧ y ≤ 2199 then ((y - 1900) * 12 + m - 1, 0) else (0, 3)
def mparS (s : ByteArray) : Int × Int := if mformB s then mres (digV (L (s.extract 0 4))) (digV (L (s.extract 5 7))) else (0, 2)
theorem mparS_yes {s : ByteArray} (h : mformB s = true) : mparS s = mres (digV (L (s.extract 0 4))) (digV (L (s.extract 5 7))) := by rw [mparS, if_pos h]
theorem mparS_no {s : ByteArray} (h : mformB s = false) : mparS s = (0, 2) := by rw [mparS, h]; rfl
/-- the ways in which a string is none -/
theorem mform_cases (s : ByteArray) : (mformB s = false ∧ s.size ≠ 7) ∨ ∃ h : s.size = 7,
    (mformB s = false ∧ s[4].toNat ≠ 45) ∨ (mformB s = (digB (L (s.extract 0 4)) && digB (L (s.extract 5 7))) ∧ s[4].toNat = 45) := by
  by_cases h : s.size = 7
  · refine .inr ⟨h, ?_⟩
    have g4 := L_get s 4 (by omega)
    have key : ∀ c : UInt8, (some c == some (45 : UInt8)) = decide (c.toNat = 45) := by
      intro c
      by_cases hc : c = 45
      · subst hc; rfl
      · have : c.toNat ≠ 45 := fun e => hc (UInt8.toNat_inj.1 e)
        simp [hc, this]
    unfold mformB
    rw [g4, key]
    by_cases e4 : s[4].toNat = 45
    · exact .inr ⟨by simp [h, e4], e4⟩
    · exact .inl ⟨by simp [e4], e4⟩
  · exact .inl ⟨by simp [mformB, h], h⟩
theorem mparS_monthS {m : Int} (h : monB m = true) : mparS (monthS m) = (m, 0) := by
  have hb := mY_bd h
  obtain ⟨a, ea, la, da, va⟩ := padS_dig (n := mY m) (k := 4) (by omega) (by omega) (by show (mY m).toNat < 10000; omega)
  obtain ⟨b, eb, lb, db, vb⟩ := padS_dig (n := mM m) (k := 2) (by omega) (by omega) (by show (mM m).toNat < 100; omega)
  have e : monthS m = bs (a ++ [45] ++ b) := by
    rw [monthS_yes h, ea, eb]
    show bs a ++ bs [45] ++ bs b = _
    rw [bs_append, bs_append]
  match a, la, b, lb with
  | [a0, a1, a2, a3], _, [b0, b1], _ =>
    have x1 : L ((monthS m).extract 0 4) = [a0, a1, a2, a3] := by rw [e, L_extract, L_bs]; rfl
    have x2 : L ((monthS m).extract 5 7) = [b0, b1] := by rw [e, L_extract, L_bs]; rfl
    have hB : mformB (monthS m) = true := by
      unfold mformB
      rw [x1, x2, da, db, e, L_bs, bs_size]
      rfl
    rw [mparS_yes hB, x1, x2, va, vb, mres, if_pos ⟨hb.2.2.1, hb.2.2.2, hb.1, hb.2.1⟩]
    unfold mY mM
    congr 1
    omega
/-- a number of four digits needs no zeros ahead -/
theorem padS_y {y : Int} (h0 : 1000 ≤ y) (h1 : y ≤ 9999) : padS y 4 = numS y := by
  refine padS_no ?_
  have hd := decDigits_all y.toNat
  have hi : Lib.itoa y = Lib.decDigits y.toNat := by rw [Lib.itoa, if_neg (by omega)]
  have hv := val_lt hd
  rw [val_decDigits] at hv
  rw [numS, bs_size, hi]
  rcases Nat.lt_or_ge (Lib.decDigits y.toNat).length 4 with hl | hl
  · exfalso
    have : 10 ^ (Lib.decDigits y.toNat).length ≤ 10 ^ 3 := Nat.pow_le_pow_right (by decide) (by omega)
    omega
  · omega

end Go.Proofs.YtjdljholajacdaaDoor
