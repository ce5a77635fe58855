/- Plain facts about adding months and about full years between two dates. No program stands here. -/
import Derived.Test.YtdnjfpmngnkcfaaGreatDoorDateMath
namespace Go.Proofs.YtdnjfpmngnkcfaaGreatDoor

def isDate (d : Int) : Bool := decide (0 ≤ d) && decide (d ≤ 109572)
theorem isDate_iff {d : Int} : isDate d = true ↔ 0 ≤ d ∧ d ≤ 109572 := by simp [isDate]
theorem isDate_not {d : Int} : isDate d = false ↔ d < 0 ∨ 109572 < d := by simp [isDate]; omega

noncomputable def monS (a n : Int) : Int := ((toS a).1 - 1900) * 12 + (toS a).2.1 - 1 + n
noncomputable def addIn (a n : Int) : Int × Int := fromS (1900 + monS a n / 12) (monS a n % 12 + 1) (min (toS a).2.2 (dimS (1900 + monS a n / 12) (monS a n % 12 + 1)))
noncomputable def addOk (a n : Int) : Bool := isDate a && (decide (-3600 ≤ n) && (decide (n ≤ 3600) && (decide (0 ≤ monS a n) && decide (monS a n ≤ 3599))))
/-- the date n months after a, and the code -/
noncomputable def addM (a n : Int) : Int × Int := if addOk a n then addIn a n else (0, 3)
theorem addOk_iff {a n : Int} : addOk a n = true ↔ isDate a = true ∧ -3600 ≤ n ∧ n ≤ 3600 ∧ 0 ≤ monS a n ∧ monS a n ≤ 3599 := by simp [addOk]
theorem addM_ok {a n : Int} (h : addOk a n = true) : addM a n = addIn a n := by rw [addM, if_pos h]
theorem addM_no {a n : Int} (h : addOk a n = false) : addM a n = (0, 3) := by rw [addM, h]; rfl
theorem toS_bd {a : Int} (h : isDate a = true) : 1900 ≤ (toS a).1 ∧ (toS a).1 ≤ 2199 ∧ 1 ≤ (toS a).2.1 ∧ (toS a).2.1 ≤ 12 ∧ 1 ≤ (toS a).2.2 ∧ (toS a).2.2 ≤ dimS (toS a).1 (toS a).2.1 := by
  have h' := isDate_iff.1 h
  exact ymdB_iff.1 (toS_spec a h'.1 h'.2).1
theorem fromS_fit {y m d : Int} (h1 : 1900 ≤ y) (h2 : y ≤ 2199) (h3 : 1 ≤ m) (h4 : m ≤ 12) (h5 : 1 ≤ d) : ymdB y m (min d (dimS y m)) = true := by
  have := dimS_bd y m h3 h4
  exact ymdB_iff.2 ⟨h1, h2, h3, h4, by omega, by omega⟩
theorem fromS_of {y m d : Int} (h : ymdB y m d = true) : fromS y m d = (dayNo y m d, 0) := by rw [fromS, if_pos h]
theorem fromS_no {y m d : Int} (h : ymdB y m d = false) : fromS y m d = (0, 3) := by rw [fromS, h]; rfl
theorem addM_code {a n : Int} (h : addOk a n = true) : (addM a n).2 = 0 := by
  rw [addM_ok h]
  obtain ⟨h0, h1, h2, h3, h4⟩ := addOk_iff.1 h
  have hb := toS_bd h0
  rw [addIn, fromS_of (fromS_fit (by omega) (by omega) (by omega) (by omega) hb.2.2.2.2.1)]

/-- adding whole years keeps the month and moves the year -/
theorem anniv {a j : Int} (h : isDate a = true) (h0 : 0 ≤ j) (h1 : (toS a).1 + j ≤ 2199) :
    (addM a (12 * j)).2 = 0 ∧ ysS ((toS a).1 + j) ≤ (addM a (12 * j)).1 ∧ (addM a (12 * j)).1 < ysS ((toS a).1 + j + 1) := by
  have hb := toS_bd h
  have hok : addOk a (12 * j) = true := addOk_iff.2 ⟨h, by omega, by omega, by unfold monS; omega, by unfold monS; omega⟩
  have hm : monS a (12 * j) = 12 * ((toS a).1 + j - 1900) + ((toS a).2.1 - 1) := by unfold monS; omega
  have e1 : 1900 + monS a (12 * j) / 12 = (toS a).1 + j := by omega
  have e2 : monS a (12 * j) % 12 + 1 = (toS a).2.1 := by omega
  have hf := fromS_fit (y := (toS a).1 + j) (m := (toS a).2.1) (by omega) h1 hb.2.2.1 hb.2.2.2.1 hb.2.2.2.2.1
  rw [addM_ok hok, addIn, e1, e2, fromS_of hf]
  exact ⟨rfl, (in_year hf).1, (in_year hf).2⟩
theorem anniv_no {a j : Int} (h : isDate a = true) (h1 : 2200 ≤ (toS a).1 + j) : addM a (12 * j) = (0, 3) := by
  refine addM_no ?_
  have hb := toS_bd h
  cases hk : addOk a (12 * j)
  · rfl
  · obtain ⟨k0, k1, k2, k3, k4⟩ := addOk_iff.1 hk
    unfold monS at k4
    omega
theorem anniv_zero {a : Int} (h : isDate a = true) : addM a 0 = (a, 0) := by
  have hb := toS_bd h
  have h' := isDate_iff.1 h
  have hs := toS_spec a h'.1 h'.2
  have hm : monS a 0 = 12 * ((toS a).1 - 1900) + ((toS a).2.1 - 1) := by unfold monS; omega
  have hok : addOk a 0 = true := addOk_iff.2 ⟨h, by omega, by omega, by omega, by omega⟩
  have e1 : 1900 + monS a 0 / 12 = (toS a).1 := by omega
  have e2 : monS a 0 % 12 + 1 = (toS a).2.1 := by omega
  rw [addM_ok hok, addIn, e1, e2, Int.min_eq_left hb.2.2.2.2.2, fromS_of hs.1, hs.2]
theorem year_at {a : Int} (h : isDate a = true) : ysS (toS a).1 ≤ a ∧ a < ysS ((toS a).1 + 1) := by
  have h' := isDate_iff.1 h
  have hs := toS_spec a h'.1 h'.2
  have := in_year hs.1
  rw [hs.2] at this
  exact this
theorem year_le {a b : Int} (h : isDate a = true) (h' : isDate b = true) (hab : a ≤ b) : (toS a).1 ≤ (toS b).1 := by
  have h1 := year_at h
  have h2 := year_at h'
  have hb := toS_bd h'
  have ha := toS_bd h
  rcases Int.lt_or_le (toS b).1 (toS a).1 with hl | hl
  · exfalso
    by_cases e : (toS b).1 + 1 = (toS a).1
    · rw [← e] at h1; omega
    · have := ysS_lt ((toS b).1 + 1) (toS a).1 (by omega) (by omega); omega
  · exact hl

def ybIn (a b : Int) : Bool := isDate a && (isDate b && decide (a ≤ b))
theorem ybIn_iff {a b : Int} : ybIn a b = true ↔ isDate a = true ∧ isDate b = true ∧ a ≤ b := by simp [ybIn]
/-- the full years from a to b -/
noncomputable def ybS (a b : Int) : Int :=
  if ybIn a b then (if (addM a (12 * ((toS b).1 - (toS a).1))).1 ≤ b then (toS b).1 - (toS a).1 else (toS b).1 - (toS a).1 - 1) else 0
theorem ybS_no {a b : Int} (h : ybIn a b = false) : ybS a b = 0 := by rw [ybS, h]; rfl
theorem yb_cases {a b : Int} (h : ybIn a b = true) :
    (ybS a b = (toS b).1 - (toS a).1 ∧ (addM a (12 * ((toS b).1 - (toS a).1))).1 ≤ b) ∨ (ybS a b = (toS b).1 - (toS a).1 - 1 ∧ b < (addM a (12 * ((toS b).1 - (toS a).1))).1 ∧ (toS a).1 < (toS b).1) := by
  obtain ⟨h1, h2, h3⟩ := ybIn_iff.1 h
  have hy := year_le h1 h2 h3
  rw [ybS, if_pos h]
  by_cases hc : (addM a (12 * ((toS b).1 - (toS a).1))).1 ≤ b
  · rw [if_pos hc]; exact .inl ⟨rfl, hc⟩
  · rw [if_neg hc]
    refine .inr ⟨rfl, by omega, ?_⟩
    rcases Int.lt_or_eq_of_le hy with hl | he
    · exact hl
    · exfalso
      rw [he, Int.sub_self, Int.mul_zero, anniv_zero h1] at hc
      exact hc h3
theorem ybS_bd (a b : Int) : 0 ≤ ybS a b ∧ ybS a b ≤ 299 := by
  cases h : ybIn a b
  · rw [ybS_no h]; omega
  · obtain ⟨h1, h2, h3⟩ := ybIn_iff.1 h
    have := toS_bd h1
    have := toS_bd h2
    have hy := year_le h1 h2 h3
    rcases yb_cases h with ⟨e, _⟩ | ⟨e, _, _⟩ <;> omega
/-- up to the answer, the anniversary is not later than b -/
theorem yb_upto {a b j : Int} (h : ybIn a b = true) (h0 : 0 ≤ j) (h1 : j ≤ ybS a b) : (addM a (12 * j)).2 = 0 ∧ (addM a (12 * j)).1 ≤ b := by
  obtain ⟨k1, k2, k3⟩ := ybIn_iff.1 h
  have hy := year_le k1 k2 k3
  have ba := toS_bd k1
  have bb := toS_bd k2
  have hyb := year_at k2
  have key : j < (toS b).1 - (toS a).1 → (addM a (12 * j)).2 = 0 ∧ (addM a (12 * j)).1 ≤ b := by
    intro hl
    have hh := anniv k1 h0 (by omega)
    refine ⟨hh.1, ?_⟩
    have hm : ysS ((toS a).1 + j + 1) ≤ ysS (toS b).1 := by
      by_cases e : (toS a).1 + j + 1 = (toS b).1
      · rw [e]; exact Int.le_refl _
      · have := ysS_lt ((toS a).1 + j + 1) (toS b).1 (by omega) (by omega); omega
    omega
  rcases yb_cases h with ⟨e, hc⟩ | ⟨e, hc, hl⟩
  · by_cases ej : j = (toS b).1 - (toS a).1
    · subst ej; exact ⟨(anniv k1 h0 (by omega)).1, hc⟩
    · exact key (by omega)
  · exact key (by omega)
/-- the next anniversary is later than b, or out of range -/
theorem yb_next {a b : Int} (ha : isDate a = true) (hb : isDate b = true) : (addM a (12 * (ybS a b + 1))).2 ≠ 0 ∨ b < (addM a (12 * (ybS a b + 1))).1 := by
  have ba := toS_bd ha
  have bb := toS_bd hb
  have hyb := year_at hb
  have hya := year_at ha
  have key : ∀ j, 0 ≤ j → b < ysS ((toS a).1 + j) → (addM a (12 * j)).2 ≠ 0 ∨ b < (addM a (12 * j)).1 := by
    intro j h0 hl
    rcases Int.lt_or_le 2199 ((toS a).1 + j) with hg | hg
    · rw [anniv_no ha (by omega)]; exact .inl (by decide)
    · have := anniv ha h0 hg
      exact .inr (by omega)
  cases h : ybIn a b
  · rw [ybS_no h]
    have hlt : b < a := by
      rcases Int.lt_or_le b a with hl | hl
      · exact hl
      · exfalso; rw [ybIn_iff.2 ⟨ha, hb, hl⟩] at h; exact absurd h (by decide)
    refine key (0 + 1) (by omega) ?_
    rw [show (toS a).1 + (0 + 1) = (toS a).1 + 1 from by omega]
    omega
  · rcases yb_cases h with ⟨e, hc⟩ | ⟨e, hc, hl⟩
    · rw [e]
      refine key _ ?_ ?_
      · have := ybS_bd a b; omega
      · rw [show (toS a).1 + ((toS b).1 - (toS a).1 + 1) = (toS b).1 + 1 from by omega]
        exact hyb.2
    · rw [e, show (toS b).1 - (toS a).1 - 1 + 1 = (toS b).1 - (toS a).1 from by omega]
      exact .inr hc
end Go.Proofs.YtdnjfpmngnkcfaaGreatDoor
