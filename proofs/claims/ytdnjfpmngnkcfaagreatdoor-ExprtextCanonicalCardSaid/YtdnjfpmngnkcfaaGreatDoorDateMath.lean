/- Plain facts about calendar dates: what package date and its reference compute. No program stands here. -/
namespace Go.Proofs.YtdnjfpmngnkcfaaGreatDoor

def leapB (y : Int) : Bool := y.tmod 4 == 0 && (y.tmod 100 != 0 || y.tmod 400 == 0)
theorem leapB_pos (y : Int) (h : 0 ≤ y) : leapB y = (y % 4 == 0 && (y % 100 != 0 || y % 400 == 0)) := by
  unfold leapB
  rw [Int.tmod_eq_emod_of_nonneg h, Int.tmod_eq_emod_of_nonneg h, Int.tmod_eq_emod_of_nonneg h]
def leapI (y : Int) : Int := if leapB y then 1 else 0
theorem leapI_cases (y : Int) (h : 0 ≤ y) : (leapI y = 1 ∧ y % 4 = 0 ∧ (y % 100 ≠ 0 ∨ y % 400 = 0)) ∨ (leapI y = 0 ∧ ¬ (y % 4 = 0 ∧ (y % 100 ≠ 0 ∨ y % 400 = 0))) := by
  unfold leapI
  rw [leapB_pos y h]
  by_cases hc : y % 4 = 0 ∧ (y % 100 ≠ 0 ∨ y % 400 = 0)
  · left
    refine ⟨?_, hc⟩
    rw [if_pos]
    simpa using hc
  · right
    refine ⟨?_, hc⟩
    rw [if_neg]
    simpa using hc
def mlens : List Int := [31, 28, 31, 30, 31, 30, 31, 31, 30, 31, 30, 31]
def dimS (y m : Int) : Int := if m < 1 ∨ 12 < m then 0 else if m = 2 ∧ leapB y = true then 29 else mlens[(m - 1).toNat]?.getD 0
theorem month_cases {m : Int} (h1 : 1 ≤ m) (h2 : m ≤ 12) : m = 1 ∨ m = 2 ∨ m = 3 ∨ m = 4 ∨ m = 5 ∨ m = 6 ∨ m = 7 ∨ m = 8 ∨ m = 9 ∨ m = 10 ∨ m = 11 ∨ m = 12 := by omega
theorem dimS_out {y m : Int} (h : m < 1 ∨ 12 < m) : dimS y m = 0 := by rw [dimS, if_pos h]
theorem dimS_feb (y : Int) : dimS y 2 = 28 + leapI y := by
  unfold dimS leapI
  cases hl : leapB y <;> simp [mlens]
theorem dimS_in {y m : Int} (h1 : 1 ≤ m) (h2 : m ≤ 12) (h3 : m ≠ 2) : dimS y m = mlens[(m - 1).toNat]?.getD 0 := by
  rw [dimS, if_neg (by omega), if_neg (by omega)]
theorem dimS_bd (y m : Int) (h1 : 1 ≤ m) (h2 : m ≤ 12) : 28 ≤ dimS y m ∧ dimS y m ≤ 31 := by
  by_cases h3 : m = 2
  · subst h3
    rw [dimS_feb]
    unfold leapI; split <;> omega
  · rw [dimS_in h1 h2 h3]
    rcases month_cases h1 h2 with rfl | rfl | rfl | rfl | rfl | rfl | rfl | rfl | rfl | rfl | rfl | rfl <;> first | decide | exact absurd rfl h3
theorem dimS_le (y m : Int) : 0 ≤ dimS y m ∧ dimS y m ≤ 31 := by
  by_cases h : m < 1 ∨ 12 < m
  · rw [dimS_out h]; omega
  · have := dimS_bd y m (by omega) (by omega); omega
/-- days of the first k months of year y -/
def cumM (y : Int) : Nat → Int
  | 0 => 0
  | k + 1 => cumM y k + dimS y (k + 1)
theorem cumM_bd (y : Int) (k : Nat) (hk : k ≤ 12) : 0 ≤ cumM y k ∧ cumM y k ≤ 31 * k := by
  induction k with
  | zero => simp [cumM]
  | succ k ih =>
    have := ih (by omega)
    have := dimS_le y (k + 1)
    rw [cumM]; omega
theorem cumM_mono (y : Int) (i j : Nat) (h : i ≤ j) : cumM y i ≤ cumM y j := by
  induction j with
  | zero => have : i = 0 := by omega
            subst this; exact Int.le_refl _
  | succ j ih =>
    by_cases e : i = j + 1
    · subst e; exact Int.le_refl _
    · have := ih (by omega)
      have := dimS_le y (j + 1)
      rw [cumM]; omega
theorem cumM_12 (y : Int) : cumM y 12 = 365 + leapI y := by
  have h : ∀ m : Int, 1 ≤ m → m ≤ 12 → m ≠ 2 → dimS y m = mlens[(m - 1).toNat]?.getD 0 := fun m a b c => dimS_in a b c
  have h2 := dimS_feb y
  simp only [cumM]
  rw [show ((0 : Nat) : Int) + 1 = 1 from rfl, show ((1 : Nat) : Int) + 1 = 2 from rfl, show ((2 : Nat) : Int) + 1 = 3 from rfl, show ((3 : Nat) : Int) + 1 = 4 from rfl,
    show ((4 : Nat) : Int) + 1 = 5 from rfl, show ((5 : Nat) : Int) + 1 = 6 from rfl, show ((6 : Nat) : Int) + 1 = 7 from rfl, show ((7 : Nat) : Int) + 1 = 8 from rfl,
    show ((8 : Nat) : Int) + 1 = 9 from rfl, show ((9 : Nat) : Int) + 1 = 10 from rfl, show ((10 : Nat) : Int) + 1 = 11 from rfl, show ((11 : Nat) : Int) + 1 = 12 from rfl,
    h 1 (by omega) (by omega) (by omega), h2, h 3 (by omega) (by omega) (by omega), h 4 (by omega) (by omega) (by omega), h 5 (by omega) (by omega) (by omega), h 6 (by omega) (by omega) (by omega),
    h 7 (by omega) (by omega) (by omega), h 8 (by omega) (by omega) (by omega), h 9 (by omega) (by omega) (by omega), h 10 (by omega) (by omega) (by omega), h 11 (by omega) (by omega) (by omega), h 12 (by omega) (by omega) (by omega)]
  simp [mlens]
  omega

def leapsTo (y : Int) : Int := y / 4 - y / 100 + y / 400
/-- days from 1 January 1900 to 1 January of year y -/
def ysS (y : Int) : Int := (y - 1900) * 365 + leapsTo (y - 1) - leapsTo 1899
theorem ysS_1900 : ysS 1900 = 0 := by decide
theorem ysS_succ (y : Int) (h : 0 ≤ y) : ysS (y + 1) = ysS y + 365 + leapI y := by
  unfold ysS leapsTo
  rcases leapI_cases y h with ⟨e, h1, h2⟩ | ⟨e, h1⟩ <;> rw [e] <;> omega
theorem ysS_2200 : ysS 2200 = 109573 := by decide
theorem leapI_bd (y : Int) : 0 ≤ leapI y ∧ leapI y ≤ 1 := by unfold leapI; split <;> omega
theorem ysS_bd (y : Int) (h1 : 1900 ≤ y) (h2 : y ≤ 2200) : 365 * (y - 1900) ≤ ysS y ∧ ysS y ≤ 366 * (y - 1900) := by
  obtain ⟨k, rfl⟩ : ∃ k : Nat, y = 1900 + k := ⟨(y - 1900).toNat, by omega⟩
  clear h1
  induction k with
  | zero => simp [ysS_1900]
  | succ k ih =>
    have := ih (by omega)
    have e := ysS_succ (1900 + k) (by omega)
    have := leapI_bd (1900 + k)
    rw [show (1900 : Int) + ((k + 1 : Nat) : Int) = 1900 + k + 1 from by omega, e]
    omega
theorem ysS_lt (a b : Int) (h1 : 1900 ≤ a) (h2 : a < b) : ysS a + 365 ≤ ysS b := by
  obtain ⟨k, rfl⟩ : ∃ k : Nat, b = a + 1 + k := ⟨(b - a - 1).toNat, by omega⟩
  clear h2
  induction k with
  | zero =>
    have e := ysS_succ a (by omega)
    have := leapI_bd a
    rw [show a + 1 + ((0 : Nat) : Int) = a + 1 from by omega, e]; omega
  | succ k ih =>
    have e := ysS_succ (a + 1 + k) (by omega)
    have := leapI_bd (a + 1 + k)
    rw [show a + 1 + ((k + 1 : Nat) : Int) = a + 1 + k + 1 from by omega, e]; omega

def ymdB (y m d : Int) : Bool := decide (1900 ≤ y) && (decide (y ≤ 2199) && (decide (1 ≤ m) && (decide (m ≤ 12) && (decide (1 ≤ d) && decide (d ≤ dimS y m)))))
theorem ymdB_iff {y m d : Int} : ymdB y m d = true ↔ 1900 ≤ y ∧ y ≤ 2199 ∧ 1 ≤ m ∧ m ≤ 12 ∧ 1 ≤ d ∧ d ≤ dimS y m := by simp [ymdB]
def dayNo (y m d : Int) : Int := ysS y + cumM y (m - 1).toNat + d - 1
def fromS (y m d : Int) : Int × Int := if ymdB y m d then (dayNo y m d, 0) else (0, 3)
theorem in_year {y m d : Int} (h : ymdB y m d = true) : ysS y ≤ dayNo y m d ∧ dayNo y m d < ysS (y + 1) := by
  obtain ⟨h1, h2, h3, h4, h5, h6⟩ := ymdB_iff.1 h
  have a := cumM_bd y (m - 1).toNat (by omega)
  have b := cumM_mono y ((m - 1).toNat + 1) 12 (by omega)
  rw [cumM, show (((m - 1).toNat : Nat) : Int) + 1 = m from by omega, cumM_12] at b
  rw [ysS_succ y (by omega)]
  unfold dayNo
  omega
theorem dayNo_bd {y m d : Int} (h : ymdB y m d = true) : 0 ≤ dayNo y m d ∧ dayNo y m d ≤ 109572 := by
  have h' := ymdB_iff.1 h
  have a := in_year h
  have b := ysS_bd y (by omega) (by omega)
  have c : ysS (y + 1) ≤ ysS 2200 := by
    by_cases e : y + 1 = 2200
    · rw [e]; exact Int.le_refl _
    · have := ysS_lt (y + 1) 2200 (by omega) (by omega); omega
  rw [ysS_2200] at c
  omega
theorem dayNo_inj {y m d y' m' d' : Int} (h : ymdB y m d = true) (h' : ymdB y' m' d' = true) (e : dayNo y m d = dayNo y' m' d') : y = y' ∧ m = m' ∧ d = d' := by
  have i1 := in_year h
  have i2 := in_year h'
  obtain ⟨a1, a2, a3, a4, a5, a6⟩ := ymdB_iff.1 h
  obtain ⟨b1, b2, b3, b4, b5, b6⟩ := ymdB_iff.1 h'
  have hy : y = y' := by
    rcases Int.lt_trichotomy y y' with hl | he | hg
    · by_cases e2 : y + 1 = y'
      · subst e2; omega
      · have := ysS_lt (y + 1) y' (by omega) (by omega); omega
    · exact he
    · by_cases e2 : y' + 1 = y
      · subst e2; omega
      · have := ysS_lt (y' + 1) y (by omega) (by omega); omega
  subst hy
  have hm : m = m' := by
    unfold dayNo at e
    have c1 : cumM y ((m - 1).toNat + 1) = cumM y (m - 1).toNat + dimS y m := by rw [cumM, show (((m - 1).toNat : Nat) : Int) + 1 = m from by omega]
    have c2 : cumM y ((m' - 1).toNat + 1) = cumM y (m' - 1).toNat + dimS y m' := by rw [cumM, show (((m' - 1).toNat : Nat) : Int) + 1 = m' from by omega]
    rcases Int.lt_trichotomy m m' with hl | he | hg
    · have := cumM_mono y ((m - 1).toNat + 1) (m' - 1).toNat (by omega); omega
    · exact he
    · have := cumM_mono y ((m' - 1).toNat + 1) (m - 1).toNat (by omega); omega
  subst hm
  unfold dayNo at e
  exact ⟨rfl, rfl, by omega⟩

/-- the year, month and day of a date -/
noncomputable def toS (n : Int) : Int × Int × Int :=
  open Classical in if h : ∃ p : Int × Int × Int, ymdB p.1 p.2.1 p.2.2 = true ∧ dayNo p.1 p.2.1 p.2.2 = n then Classical.choose h else (0, 0, 0)
theorem toS_eq {n y m d : Int} (h : ymdB y m d = true) (e : dayNo y m d = n) : toS n = (y, m, d) := by
  unfold toS
  have hx : ∃ p : Int × Int × Int, ymdB p.1 p.2.1 p.2.2 = true ∧ dayNo p.1 p.2.1 p.2.2 = n := ⟨(y, m, d), h, e⟩
  rw [dif_pos hx]
  have hc := Classical.choose_spec hx
  obtain ⟨e1, e2, e3⟩ := dayNo_inj hc.1 h (hc.2.trans e.symm)
  exact Prod.ext e1 (Prod.ext e2 e3)
theorem toS_no {n : Int} (h : n < 0 ∨ 109572 < n) : toS n = (0, 0, 0) := by
  unfold toS
  rw [dif_neg]
  rintro ⟨p, hp, e⟩
  have := dayNo_bd hp
  omega
theorem year_of (n : Int) (h0 : 0 ≤ n) (h1 : n ≤ 109572) : ∃ y, 1900 ≤ y ∧ y ≤ 2199 ∧ ysS y ≤ n ∧ n < ysS (y + 1) := by
  have key : ∀ k : Nat, k ≤ 300 → n < ysS (1900 + k) → ∃ y, 1900 ≤ y ∧ y ≤ 2199 ∧ ysS y ≤ n ∧ n < ysS (y + 1) := by
    intro k
    induction k with
    | zero => intro _ h; rw [show (1900 : Int) + ((0 : Nat) : Int) = 1900 from rfl, ysS_1900] at h; omega
    | succ k ih =>
      intro hk h
      rw [show (1900 : Int) + ((k + 1 : Nat) : Int) = 1900 + k + 1 from by omega] at h
      rcases Int.lt_or_le n (ysS (1900 + k)) with hl | hl
      · exact ih (by omega) hl
      · exact ⟨1900 + k, by omega, by omega, hl, h⟩
  refine key 300 (Nat.le_refl _) ?_
  rw [show (1900 : Int) + ((300 : Nat) : Int) = 2200 from rfl, ysS_2200]
  omega
theorem month_of (y r : Int) (h0 : 0 ≤ r) (h1 : r < 365 + leapI y) : ∃ k : Nat, k < 12 ∧ cumM y k ≤ r ∧ r < cumM y (k + 1) := by
  have key : ∀ k : Nat, k ≤ 12 → r < cumM y k → ∃ k : Nat, k < 12 ∧ cumM y k ≤ r ∧ r < cumM y (k + 1) := by
    intro k
    induction k with
    | zero => intro _ h; simp [cumM] at h; omega
    | succ k ih =>
      intro hk h
      rcases Int.lt_or_le r (cumM y k) with hl | hl
      · exact ih (by omega) hl
      · exact ⟨k, by omega, hl, h⟩
  exact key 12 (Nat.le_refl _) (by rw [cumM_12]; exact h1)
theorem toS_spec (n : Int) (h0 : 0 ≤ n) (h1 : n ≤ 109572) : ymdB (toS n).1 (toS n).2.1 (toS n).2.2 = true ∧ dayNo (toS n).1 (toS n).2.1 (toS n).2.2 = n := by
  obtain ⟨y, y1, y2, y3, y4⟩ := year_of n h0 h1
  rw [ysS_succ y (by omega)] at y4
  obtain ⟨k, k1, k2, k3⟩ := month_of y (n - ysS y) (by omega) (by omega)
  rw [cumM] at k3
  have hb : ymdB y (k + 1) (n - ysS y - cumM y k + 1) = true := ymdB_iff.2 ⟨y1, y2, by omega, by omega, by omega, by omega⟩
  have he : dayNo y (k + 1) (n - ysS y - cumM y k + 1) = n := by
    unfold dayNo
    rw [show ((k : Int) + 1 - 1).toNat = k from by omega]; omega
  rw [toS_eq hb he]
  exact ⟨hb, he⟩
end Go.Proofs.YtdnjfpmngnkcfaaGreatDoor
