/- Plain facts about calendar months: their first day, their length, the month of a date, the overlap with a range. No program stands here. -/
import Derived.Test.YtjdljholajacdaaDoorDateMathB
namespace Go.Proofs.YtjdljholajacdaaDoor

def monB (m : Int) : Bool := decide (0 ≤ m) && decide (m ≤ 3599)
theorem monB_iff {m : Int} : monB m = true ↔ 0 ≤ m ∧ m ≤ 3599 := by simp [monB]
theorem monB_not {m : Int} : monB m = false ↔ m < 0 ∨ 3599 < m := by simp [monB]; omega
def mY (m : Int) : Int := 1900 + m / 12
def mM (m : Int) : Int := m % 12 + 1
def firstM (m : Int) : Int := dayNo (mY m) (mM m) 1
def daysM (m : Int) : Int := if monB m then dimS (mY m) (mM m) else 0
noncomputable def fromD (d : Int) : Int := if isDate d then ((toS d).1 - 1900) * 12 + (toS d).2.1 - 1 else -1
theorem daysM_yes {m : Int} (h : monB m = true) : daysM m = dimS (mY m) (mM m) := by rw [daysM, if_pos h]
theorem daysM_no {m : Int} (h : monB m = false) : daysM m = 0 := by rw [daysM, h]; rfl
theorem fromD_yes {d : Int} (h : isDate d = true) : fromD d = ((toS d).1 - 1900) * 12 + (toS d).2.1 - 1 := by rw [fromD, if_pos h]
theorem fromD_no {d : Int} (h : isDate d = false) : fromD d = -1 := by rw [fromD, h]; rfl
theorem mY_bd {m : Int} (h : monB m = true) : 1900 ≤ mY m ∧ mY m ≤ 2199 ∧ 1 ≤ mM m ∧ mM m ≤ 12 := by
  have := monB_iff.1 h
  unfold mY mM; omega
theorem daysM_bd {m : Int} (h : monB m = true) : 28 ≤ daysM m ∧ daysM m ≤ 31 := by
  have hb := mY_bd h
  rw [daysM_yes h]; exact dimS_bd _ _ hb.2.2.1 hb.2.2.2
theorem month_ymd {m d : Int} (h : monB m = true) (h1 : 1 ≤ d) (h2 : d ≤ daysM m) : ymdB (mY m) (mM m) d = true := by
  have hb := mY_bd h
  rw [daysM_yes h] at h2
  exact ymdB_iff.2 ⟨hb.1, hb.2.1, hb.2.2.1, hb.2.2.2, h1, h2⟩
theorem from_first {m : Int} (h : monB m = true) : fromS (mY m) (mM m) 1 = (firstM m, 0) := by
  have := daysM_bd h
  exact fromS_of (month_ymd h (by omega) (by omega))
theorem firstM_bd {m : Int} (h : monB m = true) : 0 ≤ firstM m ∧ firstM m ≤ 109572 := by
  have := daysM_bd h
  exact dayNo_bd (month_ymd h (by omega) (by omega))
theorem dayNo_first {m d : Int} : dayNo (mY m) (mM m) d = firstM m + d - 1 := by
  unfold firstM dayNo; omega
/-- the dates of a month are those of its year and month -/
theorem toS_month {m d : Int} (h : monB m = true) (h1 : firstM m ≤ d) (h2 : d < firstM m + daysM m) : isDate d = true ∧ toS d = (mY m, mM m, d - firstM m + 1) ∧ fromD d = m := by
  have hy := month_ymd (d := d - firstM m + 1) h (by omega) (by omega)
  have hd : dayNo (mY m) (mM m) (d - firstM m + 1) = d := by rw [dayNo_first]; omega
  have hb := dayNo_bd hy
  rw [hd] at hb
  have hi := isDate_iff.2 hb
  have hs := toS_eq hy hd
  refine ⟨hi, hs, ?_⟩
  rw [fromD_yes hi, hs]
  unfold mY mM; dsimp only; omega
/-- a date lies in the month of its year and month -/
theorem fromD_in {d : Int} (h : isDate d = true) : monB (fromD d) = true ∧ firstM (fromD d) ≤ d ∧ d < firstM (fromD d) + daysM (fromD d) := by
  have h' := isDate_iff.1 h
  have hb := toS_bd h
  have hs := toS_spec d h'.1 h'.2
  have e := fromD_yes h
  have hm : monB (fromD d) = true := monB_iff.2 (by rw [e]; omega)
  have ey : mY (fromD d) = (toS d).1 := by unfold mY; rw [e]; omega
  have em : mM (fromD d) = (toS d).2.1 := by unfold mM; rw [e]; omega
  have hf : firstM (fromD d) + (toS d).2.2 - 1 = d := by
    rw [← dayNo_first, ey, em]; exact hs.2
  rw [daysM_yes hm, ey, em]
  exact ⟨hm, by omega, by omega⟩
theorem firstM_end {m : Int} (h : monB m = true) : firstM m + daysM m ≤ 109573 := by
  have := daysM_bd h
  have hb := dayNo_bd (month_ymd (d := daysM m) h (by omega) (Int.le_refl _))
  rw [dayNo_first] at hb
  omega
theorem firstM_next {m : Int} (h : monB m = true) (h1 : m < 3599) : firstM (m + 1) = firstM m + daysM m := by
  have hm := monB_iff.1 h
  rw [daysM_yes h]
  unfold firstM dayNo
  by_cases h12 : mM m = 12
  · have ey : mY (m + 1) = mY m + 1 := by unfold mY mM at *; omega
    have em : mM (m + 1) = 1 := by unfold mM at *; omega
    have hc := cumM_12 (mY m)
    rw [cumM] at hc
    have hs := ysS_succ (mY m) (by unfold mY; omega)
    rw [ey, em, h12]
    show ysS (mY m + 1) + 0 + 1 - 1 = ysS (mY m) + cumM (mY m) 11 + 1 - 1 + dimS (mY m) 12
    have e : ((11 : Nat) : Int) + 1 = 12 := rfl
    rw [e] at hc
    omega
  · have hb := mY_bd h
    have ey : mY (m + 1) = mY m := by unfold mY mM at *; omega
    have em : mM (m + 1) = mM m + 1 := by unfold mM at *; omega
    rw [ey, em, show (mM m + 1 - 1).toNat = (mM m - 1).toNat + 1 by omega, cumM, show (((mM m - 1).toNat : Nat) : Int) + 1 = mM m by omega]
    omega
theorem firstM_0 : firstM 0 = 0 := by decide
theorem firstM_last : firstM 3599 + daysM 3599 = 109573 := by decide

/-- the days of month m within the range from a to b -/
def ovS (m a b : Int) : Int := if monB m && (decide (0 ≤ a) && (decide (a ≤ b) && decide (b ≤ 109573))) then max 0 (min (firstM m + daysM m) b - max (firstM m) a) else 0
theorem ovS_yes {m a b : Int} (h : monB m = true) (h0 : 0 ≤ a) (h1 : a ≤ b) (h2 : b ≤ 109573) : ovS m a b = max 0 (min (firstM m + daysM m) b - max (firstM m) a) := by
  rw [ovS, if_pos (by simp [h, h0, h1, h2])]
theorem ovS_not {m a b : Int} (h : monB m = false) : ovS m a b = 0 := by rw [ovS, h]; rfl
theorem ovS_bad {m a b : Int} (h : a < 0 ∨ b < a ∨ 109573 < b) : ovS m a b = 0 := by
  rw [ovS, if_neg]
  intro e
  simp at e
  omega
theorem ovS_nonneg (m a b : Int) : 0 ≤ ovS m a b := by
  unfold ovS
  split <;> omega
theorem ovS_add {m a b c : Int} (h0 : 0 ≤ a) (h1 : a ≤ c) (h2 : c ≤ b) (h3 : b ≤ 109573) : ovS m a b = ovS m a c + ovS m c b := by
  cases h : monB m
  · rw [ovS_not h, ovS_not h, ovS_not h]; rfl
  · have hd := daysM_bd h
    rw [ovS_yes h h0 (by omega) h3, ovS_yes h h0 h1 (by omega), ovS_yes h (by omega) h2 h3]
    omega
theorem ovS_one {d : Int} (h : isDate d = true) : ovS (fromD d) d (d + 1) = 1 := by
  have h' := isDate_iff.1 h
  obtain ⟨h1, h2, h3⟩ := fromD_in h
  rw [ovS_yes h1 h'.1 (by omega) (by omega)]
  omega
end Go.Proofs.YtjdljholajacdaaDoor
