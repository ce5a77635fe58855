/- Plain facts about calendar dates: what package date and its reference compute. No program stands here. -/
import Derived.Test.YtjeifmjcgemlgaaGreatDoorBase
import Derived.Test.YtjeifmjcgemlgaaGreatDoorRgA
namespace Go.Proofs.YtjeifmjcgemlgaaGreatDoor

def leapB (y : Int) : Bool := y.tmod 4 == 0 && (y.tmod 100 != 0 || y.tmod 400 == 0)
theorem leapB_pos (y : Int) (h : 0 ≤ y) : leapB y = (y % 4 == 0 && (y % 100 != 0 || y % 400 == 0)) := by
  unfold leapB
  rw [Int.tmod_eq_emod_of_nonneg h, Int.tmod_eq_emod_of_nonneg h, Int.tmod_eq_emod_of_nonneg h]
def leapI (y : Int) : Int := if leapB y then 1 else 0
theorem leapI_cases (y : Int) (h : 0 ≤ y) : (leapI y = 1 ∧ y % 4 = 0 ∧ (y % 100 ≠ 0 ∨ y % 400 = 0)) ∨ (leapI y = 0 ∧ ¬ (y % 4 = 0 ∧ (y % 100 ≠ 0 ∨ y % 400 = 0))) := by
  unfold leapI
  rw [leapB_pos y h]
  by_cases hc : y % 4 = 0 ∧ (y % 100 ≠ 0 ∨ y % 400 = 0)
  · left
    refine ⟨?_, hc⟩
    rw [if_pos]
    simpa using hc
  · right
    refine ⟨?_, hc⟩
    rw [if_neg]
    simpa using hc
def mlens : List Int := [31, 28, 31, 30, 31, 30, 31, 31, 30, 31, 30, 31]
def dimS (y m : Int) : Int := if m < 1 ∨ 12 < m then 0 else if m = 2 ∧ leapB y = true then 29 else mlens[(m - 1).toNat]?.getD 0
theorem month_cases {m : Int} (h1 : 1 ≤ m) (h2 : m ≤ 12) : m = 1 ∨ m = 2 ∨ m = 3 ∨ m = 4 ∨ m = 5 ∨ m = 6 ∨ m = 7 ∨ m = 8 ∨ m = 9 ∨ m = 10 ∨ m = 11 ∨ m = 12 := by omega
theorem dimS_out {y m : Int} (h : m < 1 ∨ 12 < m) : dimS y m = 0 := by rw [dimS, if_pos h]
theorem dimS_feb (y : Int) : dimS y 2 = 28 + leapI y := by
  unfold dimS leapI
  cases hl : leapB y <;> simp [mlens]
theorem dimS_in {y m : Int} (h1 : 1 ≤ m) (h2 : m ≤ 12) (h3 : m ≠ 2) : dimS y m = mlens[(m - 1).toNat]?.getD 0 := by
  rw [dimS, if_neg (by omega), if_neg (by omega)]
theorem dimS_bd (y m : Int) (h1 : 1 ≤ m) (h2 : m ≤ 12) : 28 ≤ dimS y m ∧ dimS y m ≤ 31 := by
  by_cases h3 : m = 2
  · subst h3
    rw [dimS_feb]
    unfold leapI; split <;> omega
  · rw [dimS_in h1 h2 h3]
    rcases month_cases h1 h2 with rfl | rfl | rfl | rfl | rfl | rfl | rfl | rfl | rfl | rfl | rfl | rfl <;> first | decide | exact absurd rfl h3
theorem dimS_le (y m : Int) : 0 ≤ dimS y m ∧ dimS y m ≤ 31 := by
  by_cases h : m < 1 ∨ 12 < m
  · rw [dimS_out h]; omega
  · have := dimS_bd y m (by omega) (by omega); omega
/-- days of the first k months of year y -/
def cumM (y : Int) : Nat → Int
  | 0 => 0
  | k + 1 => cumM y k + dimS y (k + 1)
theorem cumM_bd (y : Int) (k : Nat) (hk : k ≤ 12) : 0 ≤ cumM y k ∧ cumM y k ≤ 31 * k := by
  induction k with
  | zero => simp [cumM]
  | succ k ih =>
    have := ih (by omega)
    have := dimS_le y (k + 1)
    rw [cumM]; omega
theorem cumM_mono (y : Int) (i j : Nat) (h : i ≤ j) : cumM y i ≤ cumM y j := by
  induction j with
  | zero => have : i = 0 := by omega
            subst this; exact Int.le_refl _
  | succ j ih =>
    by_cases e : i = j + 1
    · subst e; exact Int.le_refl _
    · have := ih (by omega)
      have := dimS_le y (j + 1)
      rw [cumM]; omega
theorem cumM_12 (y : Int) : cumM y 12 = 365 + leapI y := by
  have h : ∀ m : Int, 1 ≤ m → m ≤ 12 → m ≠ 2 → dimS y m = mlens[(m - 1).toNat]?.getD 0 := fun m a b c => dimS_in a b c
  have h2 := dimS_feb y
  simp only [cumM]
  rw [show ((0 : Nat) : Int) + 1 = 1 from rfl, show ((1 : Nat) : Int) + 1 = 2 from rfl, show ((2 : Nat) : Int) + 1 = 3 from rfl, show ((3 : Nat) : Int) + 1 = 4 from rfl,
    show ((4 : Nat) : Int) + 1 = 5 from rfl, show ((5 : Nat) : Int) + 1 = 6 from rfl, show ((6 : Nat) : Int) + 1 = 7 from rfl, show ((7 : Nat) : Int) + 1 = 8 from rfl,
    show ((8 : Nat) : Int) + 1 = 9 from rfl, show ((9 : Nat) : Int) + 1 = 10 from rfl, show ((10 : Nat) : Int) + 1 = 11 from rfl, show ((11 : Nat) : Int) + 1 = 12 from rfl,
    h 1 (by omega) (by omega) (by omega), h2, h 3 (by omega) (by omega) (by omega), h 4 (by omega) (by omega) (by omega), h 5 (by omega) (by omega) (by omega), h 6 (by omega) (by omega) (by omega),
    h 7 (by omega) (by omega) (by omega), h 8 (by omega) (by omega) (by omega), h 9 (by omega) (by omega) (by omega), h 10 (by omega) (by omega) (by omega), h 11 (by omega) (by omega) (by omega), h 12 (by omega) (by omega) (by omega)]
  simp [mlens]
  omega

def leapsTo (y : Int) : Int := y / 4 - y / 100 + y / 400
/-- days from 1 January 1900 to 1 January of year y -/
def ysS (y : Int) : Int := (y - 1900) * 365 + leapsTo (y - 1) - leapsTo 1899
theorem ysS_1900 : ysS 1900 = 0 := by decide
theorem ysS_succ (y : Int) (h : 0 ≤ y) : ysS (y + 1) = ysS y + 365 + leapI y := by
  unfold ysS leapsTo
  rcases leapI_cases y h with ⟨e, h1, h2⟩ | ⟨e, h1⟩ <;> rw [e] <;> omega
theorem ysS_2200 : ysS 2200 = 109573 := by decide
theorem leapI_bd (y : Int) : 0 ≤ leapI y ∧ leapI y ≤ 1 := by unfold leapI; split <;> omega
theorem ysS_bd (y : Int) (h1 : 1900 ≤ y) (h2 : y ≤ 2200) : 365 * (y - 1900) ≤ ysS y ∧ ysS y ≤ 366 * (y - 1900) := by
  obtain ⟨k, rfl⟩ : ∃ k : Nat, y = 1900 + k := ⟨(y - 1900).toNat, by omega⟩
  clear h1
  induction k with
  | zero => simp [ysS_1900]
  | succ k ih =>
    have := ih (by omega)
    have e := ysS_succ (1900 + k) (by omega)
    have := leapI_bd (1900 + k)
    rw [show (1900 : Int) + ((k + 1 : Nat) : Int) = 1900 + k + 1 from by omega, e]
    omega
theorem ysS_lt (a b : Int) (h1 : 1900 ≤ a) (h2 : a < b) : ysS a + 365 ≤ ysS b := by
  obtain ⟨k, rfl⟩ : ∃ k : Nat, b = a + 1 + k := ⟨(b - a - 1).toNat, by omega⟩
  clear h2
  induction k with
  | zero =>
    have e := ysS_succ a (by omega)
    have := leapI_bd a
    rw [show a + 1 + ((0 : Nat) : Int) = a + 1 from by omega, e]; omega
  | succ k ih =>
    have e := ysS_succ (a + 1 + k) (by omega)
    have := leapI_bd (a + 1 + k)
    rw [show a + 1 + ((k + 1 : Nat) : Int) = a + 1 + k + 1 from by omega, e]; omega

def ymdB (y m d : Int) : Bool := decide (1900 ≤ y) && (decide (y ≤ 2199) && (decide (1 ≤ m) && (decide (m ≤ 12) && (decide (1 ≤ d) && decide (d ≤ dimS y m)))))
theorem ymdB_iff {y m d : Int} : ymdB y m d = true ↔ 1900 ≤ y ∧ y ≤ 2199 ∧ 1 ≤ m ∧ m ≤ 12 ∧ 1 ≤ d ∧ d ≤ dimS y m := by simp [ymdB]
def dayNo (y m d : Int) : Int := ysS y + cumM y (m - 1).toNat + d - 1
def fromS (y m d : Int) : Int × Int := if ymdB y m d then (dayNo y m d, 0) else (0, 3)
theorem in_year {y m d : Int} (h : ymdB y m d = true) : ysS y ≤ dayNo y m d ∧ dayNo y m d < ysS (y + 1) := by
  obtain ⟨h1, h2, h3, h4, h5, h6⟩ := ymdB_iff.1 h
  have a := cumM_bd y (m - 1).toNat (by omega)
  have b := cumM_mono y ((m - 1).toNat + 1) 12 (by omega)
  rw [cumM, show (((m - 1).toNat : Nat) : Int) + 1 = m from by omega, cumM_12] at b
  rw [ysS_succ y (by omega)]
  unfold dayNo
  omega
theorem dayNo_bd {y m d : Int} (h : ymdB y m d = true) : 0 ≤ dayNo y m d ∧ dayNo y m d ≤ 109572 := by
  have h' := ymdB_iff.1 h
  have a := in_year h
  have b := ysS_bd y (by omega) (by omega)
  have c : ysS (y + 1) ≤ ysS 2200 := by
    by_cases e : y + 1 = 2200
    · rw [e]; exact Int.le_refl _
    · have := ysS_lt (y + 1) 2200 (by omega) (by omega); omega
  rw [ysS_2200] at c
  omega
theorem dayNo_inj {y m d y' m' d' : Int} (h : ymdB y m d = true) (h' : ymdB y' m' d' = true) (e : dayNo y m d = dayNo y' m' d') : y = y' ∧ m = m' ∧ d = d' := by
  have i1 := in_year h
  have i2 := in_year h'
  obtain ⟨a1, a2, a3, a4, a5, a6⟩ := ymdB_iff.1 h
  obtain ⟨b1, b2, b3, b4, b5, b6⟩ := ymdB_iff.1 h'
  have hy : y = y' := by
    rcases Int.lt_trichotomy y y' with hl | he | hg
    · by_cases e2 : y + 1 = y'
      · subst e2; omega
      · have := ysS_lt (y + 1) y' (by omega) (by omega); omega
    · exact he
    · by_cases e2 : y' + 1 = y
      · subst e2; omega
      · have := ysS_lt (y' + 1) y (by omega) (by omega); omega
  subst hy
  have hm : m = m' := by
    unfold dayNo at e
    have c1 : cumM y ((m - 1).toNat + 1) = cumM y (m - 1).toNat + dimS y m := by rw [cumM, show (((m - 1).toNat : Nat) : Int) + 1 = m from by omega]
    have c2 : cumM y ((m' - 1).toNat + 1) = cumM y (m' - 1).toNat + dimS y m' := by rw [cumM, show (((m' - 1).toNat : Nat) : Int) + 1 = m' from by omega]
    rcases Int.lt_trichotomy m m' with hl | he | hg
    · have := cumM_mono y ((m - 1).toNat + 1) (m' - 1).toNat (by omega); omega
    · exact he
    · have := cumM_mono y ((m' - 1).toNat + 1) (m - 1).toNat (by omega); omega
  subst hm
  unfold dayNo at e
  exact ⟨rfl, rfl, by omega⟩

/-- the year, month and day of a date -/
noncomputable def toS (n : Int) : Int × Int × Int :=
  open Classical in if h : ∃ p : Int × Int × Int, ymdB p.1 p.2.1 p.2.2 = true ∧ dayNo p.1 p.2.1 p.2.2 = n then Classical.choose h else (0, 0, 0)
theorem toS_eq {n y m d : Int} (h : ymdB y m d = true) (e : dayNo y m d = n) : toS n = (y, m, d) := by
  unfold toS
  have hx : ∃ p : Int × Int × Int, ymdB p.1 p.2.1 p.2.2 = true ∧ dayNo p.1 p.2.1 p.2.2 = n := ⟨(y, m, d), h, e⟩
  rw [dif_pos hx]
  have hc := Classical.choose_spec hx
  obtain ⟨e1, e2, e3⟩ := dayNo_inj hc.1 h (hc.2.trans e.symm)
  exact Prod.ext e1 (Prod.ext e2 e3)
theorem toS_no {n : Int} (h : n < 0 ∨ 109572 < n) : toS n = (0, 0, 0) := by
  unfold toS
  rw [dif_neg]
  rintro ⟨p, hp, e⟩
  have := dayNo_bd hp
  omega
theorem year_of (n : Int) (h0 : 0 ≤ n) (h1 : n ≤ 109572) : ∃ y, 1900 ≤ y ∧ y ≤ 2199 ∧ ysS y ≤ n ∧ n < ysS (y + 1) := by
  have key : ∀ k : Nat, k ≤ 300 → n < ysS (1900 + k) → ∃ y, 1900 ≤ y ∧ y ≤ 2199 ∧ ysS y ≤ n ∧ n < ysS (y + 1) := by
    intro k
    induction k with
    | zero => intro _ h; rw [show (1900 : Int) + ((0 : Nat) : Int) = 1900 from rfl, ysS_1900] at h; omega
    | succ k ih =>
      intro hk h
      rw [show (1900 : Int) + ((k + 1 : Nat) : Int) = 1900 + k + 1 from by omega] at h
      rcases Int.lt_or_le n (ysS (1900 + k)) with hl | hl
      · exact ih (by omega) hl
      · exact ⟨1900 + k, by omega, by omega, hl, h⟩
  refine key 300 (Nat.le_refl _) ?_
  rw [show (1900 : Int) + ((300 : Nat) : Int) = 2200 from rfl, ysS_2200]
  omega
theorem month_of (y r : Int) (h0 : 0 ≤ r) (h1 : r < 365 + leapI y) : ∃ k : Nat, k < 12 ∧ cumM y k ≤ r ∧ r < cumM y (k + 1) := by
  have key : ∀ k : Nat, k ≤ 12 → r < cumM y k → ∃ k : Nat, k < 12 ∧ cumM y k ≤ r ∧ r < cumM y (k + 1) := by
    intro k
    induction k with
    | zero => intro _ h; simp [cumM] at h; omega
    | succ k ih =>
      intro hk h
      rcases Int.lt_or_le r (cumM y k) with hl | hl
      · exact ih (by omega) hl
      · exact ⟨k, by omega, hl, h⟩
  exact key 12 (Nat.le_refl _) (by rw [cumM_12]; exact h1)
theorem toS_spec (n : Int) (h0 : 0 ≤ n) (h1 : n ≤ 109572) : ymdB (toS n).1 (toS n).2.1 (toS n).2.2 = true ∧ dayNo (toS n).1 (toS n).2.1 (toS n).2.2 = n := by
  obtain ⟨y, y1, y2, y3, y4⟩ := year_of n h0 h1
  rw [ysS_succ y (by omega)] at y4
  obtain ⟨k, k1, k2, k3⟩ := month_of y (n - ysS y) (by omega) (by omega)
  rw [cumM] at k3
  have hb : ymdB y (k + 1) (n - ysS y - cumM y k + 1) = true := ymdB_iff.2 ⟨y1, y2, by omega, by omega, by omega, by omega⟩
  have he : dayNo y (k + 1) (n - ysS y - cumM y k + 1) = n := by
    unfold dayNo
    rw [show ((k : Int) + 1 - 1).toNat = k from by omega]; omega
  rw [toS_eq hb he]
  exact ⟨hb, he⟩
end Go.Proofs.YtjeifmjcgemlgaaGreatDoor
/- Plain facts about adding months and about full years between two dates. No program stands here. -/
namespace Go.Proofs.YtjeifmjcgemlgaaGreatDoor

def isDate (d : Int) : Bool := decide (0 ≤ d) && decide (d ≤ 109572)
theorem isDate_iff {d : Int} : isDate d = true ↔ 0 ≤ d ∧ d ≤ 109572 := by simp [isDate]
theorem isDate_not {d : Int} : isDate d = false ↔ d < 0 ∨ 109572 < d := by simp [isDate]; omega

noncomputable def monS (a n : Int) : Int := ((toS a).1 - 1900) * 12 + (toS a).2.1 - 1 + n
noncomputable def addIn (a n : Int) : Int × Int := fromS (1900 + monS a n / 12) (monS a n % 12 + 1) (min (toS a).2.2 (dimS (1900 + monS a n / 12) (monS a n % 12 + 1)))
noncomputable def addOk (a n : Int) : Bool := isDate a && (decide (-3600 ≤ n) && (decide (n ≤ 3600) && (decide (0 ≤ monS a n) && decide (monS a n ≤ 3599))))
/-- the date n months after a, and the code -/
noncomputable def addM (a n : Int) : Int × Int := if addOk a n then addIn a n else (0, 3)
theorem addOk_iff {a n : Int} : addOk a n = true ↔ isDate a = true ∧ -3600 ≤ n ∧ n ≤ 3600 ∧ 0 ≤ monS a n ∧ monS a n ≤ 3599 := by simp [addOk]
theorem addM_ok {a n : Int} (h : addOk a n = true) : addM a n = addIn a n := by rw [addM, if_pos h]
theorem addM_no {a n : Int} (h : addOk a n = false) : addM a n = (0, 3) := by rw [addM, h]; rfl
theorem toS_bd {a : Int} (h : isDate a = true) : 1900 ≤ (toS a).1 ∧ (toS a).1 ≤ 2199 ∧ 1 ≤ (toS a).2.1 ∧ (toS a).2.1 ≤ 12 ∧ 1 ≤ (toS a).2.2 ∧ (toS a).2.2 ≤ dimS (toS a).1 (toS a).2.1 := by
  have h' := isDate_iff.1 h
  exact ymdB_iff.1 (toS_spec a h'.1 h'.2).1
theorem fromS_fit {y m d : Int} (h1 : 1900 ≤ y) (h2 : y ≤ 2199) (h3 : 1 ≤ m) (h4 : m ≤ 12) (h5 : 1 ≤ d) : ymdB y m (min d (dimS y m)) = true := by
  have := dimS_bd y m h3 h4
  exact ymdB_iff.2 ⟨h1, h2, h3, h4, by omega, by omega⟩
theorem fromS_of {y m d : Int} (h : ymdB y m d = true) : fromS y m d = (dayNo y m d, 0) := by rw [fromS, if_pos h]
theorem fromS_no {y m d : Int} (h : ymdB y m d = false) : fromS y m d = (0, 3) := by rw [fromS, h]; rfl
theorem addM_code {a n : Int} (h : addOk a n = true) : (addM a n).2 = 0 := by
  rw [addM_ok h]
  obtain ⟨h0, h1, h2, h3, h4⟩ := addOk_iff.1 h
  have hb := toS_bd h0
  rw [addIn, fromS_of (fromS_fit (by omega) (by omega) (by omega) (by omega) hb.2.2.2.2.1)]

/-- adding whole years keeps the month and moves the year -/
theorem anniv {a j : Int} (h : isDate a = true) (h0 : 0 ≤ j) (h1 : (toS a).1 + j ≤ 2199) :
    (addM a (12 * j)).2 = 0 ∧ ysS ((toS a).1 + j) ≤ (addM a (12 * j)).1 ∧ (addM a (12 * j)).1 < ysS ((toS a).1 + j + 1) := by
  have hb := toS_bd h
  have hok : addOk a (12 * j) = true := addOk_iff.2 ⟨h, by omega, by omega, by unfold monS; omega, by unfold monS; omega⟩
  have hm : monS a (12 * j) = 12 * ((toS a).1 + j - 1900) + ((toS a).2.1 - 1) := by unfold monS; omega
  have e1 : 1900 + monS a (12 * j) / 12 = (toS a).1 + j := by omega
  have e2 : monS a (12 * j) % 12 + 1 = (toS a).2.1 := by omega
  have hf := fromS_fit (y := (toS a).1 + j) (m := (toS a).2.1) (by omega) h1 hb.2.2.1 hb.2.2.2.1 hb.2.2.2.2.1
  rw [addM_ok hok, addIn, e1, e2, fromS_of hf]
  exact ⟨rfl, (in_year hf).1, (in_year hf).2⟩
theorem anniv_no {a j : Int} (h : isDate a = true) (h1 : 2200 ≤ (toS a).1 + j) : addM a (12 * j) = (0, 3) := by
  refine addM_no ?_
  have hb := toS_bd h
  cases hk : addOk a (12 * j)
  · rfl
  · obtain ⟨k0, k1, k2, k3, k4⟩ := addOk_iff.1 hk
    unfold monS at k4
    omega
theorem anniv_zero {a : Int} (h : isDate a = true) : addM a 0 = (a, 0) := by
  have hb := toS_bd h
  have h' := isDate_iff.1 h
  have hs := toS_spec a h'.1 h'.2
  have hm : monS a 0 = 12 * ((toS a).1 - 1900) + ((toS a).2.1 - 1) := by unfold monS; omega
  have hok : addOk a 0 = true := addOk_iff.2 ⟨h, by omega, by omega, by omega, by omega⟩
  have e1 : 1900 + monS a 0 / 12 = (toS a).1 := by omega
  have e2 : monS a 0 % 12 + 1 = (toS a).2.1 := by omega
  rw [addM_ok hok, addIn, e1, e2, Int.min_eq_left hb.2.2.2.2.2, fromS_of hs.1, hs.2]
theorem year_at {a : Int} (h : isDate a = true) : ysS (toS a).1 ≤ a ∧ a < ysS ((toS a).1 + 1) := by
  have h' := isDate_iff.1 h
  have hs := toS_spec a h'.1 h'.2
  have := in_year hs.1
  rw [hs.2] at this
  exact this
theorem year_le {a b : Int} (h : isDate a = true) (h' : isDate b = true) (hab : a ≤ b) : (toS a).1 ≤ (toS b).1 := by
  have h1 := year_at h
  have h2 := year_at h'
  have hb := toS_bd h'
  have ha := toS_bd h
  rcases Int.lt_or_le (toS b).1 (toS a).1 with hl | hl
  · exfalso
    by_cases e : (toS b).1 + 1 = (toS a).1
    · rw [← e] at h1; omega
    · have := ysS_lt ((toS b).1 + 1) (toS a).1 (by omega) (by omega); omega
  · exact hl

def ybIn (a b : Int) : Bool := isDate a && (isDate b && decide (a ≤ b))
theorem ybIn_iff {a b : Int} : ybIn a b = true ↔ isDate a = true ∧ isDate b = true ∧ a ≤ b := by simp [ybIn]
/-- the full years from a to b -/
noncomputable def ybS (a b : Int) : Int :=
  if ybIn a b then (if (addM a (12 * ((toS b).1 - (toS a).1))).1 ≤ b then (toS b).1 - (toS a).1 else (toS b).1 - (toS a).1 - 1) else 0
theorem ybS_no {a b : Int} (h : ybIn a b = false) : ybS a b = 0 := by rw [ybS, h]; rfl
theorem yb_cases {a b : Int} (h : ybIn a b = true) :
    (ybS a b = (toS b).1 - (toS a).1 ∧ (addM a (12 * ((toS b).1 - (toS a).1))).1 ≤ b) ∨ (ybS a b = (toS b).1 - (toS a).1 - 1 ∧ b < (addM a (12 * ((toS b).1 - (toS a).1))).1 ∧ (toS a).1 < (toS b).1) := by
  obtain ⟨h1, h2, h3⟩ := ybIn_iff.1 h
  have hy := year_le h1 h2 h3
  rw [ybS, if_pos h]
  by_cases hc : (addM a (12 * ((toS b).1 - (toS a).1))).1 ≤ b
  · rw [if_pos hc]; exact .inl ⟨rfl, hc⟩
  · rw [if_neg hc]
    refine .inr ⟨rfl, by omega, ?_⟩
    rcases Int.lt_or_eq_of_le hy with hl | he
    · exact hl
    · exfalso
      rw [he, Int.sub_self, Int.mul_zero, anniv_zero h1] at hc
      exact hc h3
theorem ybS_bd (a b : Int) : 0 ≤ ybS a b ∧ ybS a b ≤ 299 := by
  cases h : ybIn a b
  · rw [ybS_no h]; omega
  · obtain ⟨h1, h2, h3⟩ := ybIn_iff.1 h
    have := toS_bd h1
    have := toS_bd h2
    have hy := year_le h1 h2 h3
    rcases yb_cases h with ⟨e, _⟩ | ⟨e, _, _⟩ <;> omega
/-- up to the answer, the anniversary is not later than b -/
theorem yb_upto {a b j : Int} (h : ybIn a b = true) (h0 : 0 ≤ j) (h1 : j ≤ ybS a b) : (addM a (12 * j)).2 = 0 ∧ (addM a (12 * j)).1 ≤ b := by
  obtain ⟨k1, k2, k3⟩ := ybIn_iff.1 h
  have hy := year_le k1 k2 k3
  have ba := toS_bd k1
  have bb := toS_bd k2
  have hyb := year_at k2
  have key : j < (toS b).1 - (toS a).1 → (addM a (12 * j)).2 = 0 ∧ (addM a (12 * j)).1 ≤ b := by
    intro hl
    have hh := anniv k1 h0 (by omega)
    refine ⟨hh.1, ?_⟩
    have hm : ysS ((toS a).1 + j + 1) ≤ ysS (toS b).1 := by
      by_cases e : (toS a).1 + j + 1 = (toS b).1
      · rw [e]; exact Int.le_refl _
      · have := ysS_lt ((toS a).1 + j + 1) (toS b).1 (by omega) (by omega); omega
    omega
  rcases yb_cases h with ⟨e, hc⟩ | ⟨e, hc, hl⟩
  · by_cases ej : j = (toS b).1 - (toS a).1
    · subst ej; exact ⟨(anniv k1 h0 (by omega)).1, hc⟩
    · exact key (by omega)
  · exact key (by omega)
/-- the next anniversary is later than b, or out of range -/
theorem yb_next {a b : Int} (ha : isDate a = true) (hb : isDate b = true) : (addM a (12 * (ybS a b + 1))).2 ≠ 0 ∨ b < (addM a (12 * (ybS a b + 1))).1 := by
  have ba := toS_bd ha
  have bb := toS_bd hb
  have hyb := year_at hb
  have hya := year_at ha
  have key : ∀ j, 0 ≤ j → b < ysS ((toS a).1 + j) → (addM a (12 * j)).2 ≠ 0 ∨ b < (addM a (12 * j)).1 := by
    intro j h0 hl
    rcases Int.lt_or_le 2199 ((toS a).1 + j) with hg | hg
    · rw [anniv_no ha (by omega)]; exact .inl (by decide)
    · have := anniv ha h0 hg
      exact .inr (by omega)
  cases h : ybIn a b
  · rw [ybS_no h]
    have hlt : b < a := by
      rcases Int.lt_or_le b a with hl | hl
      · exact hl
      · exfalso; rw [ybIn_iff.2 ⟨ha, hb, hl⟩] at h; exact absurd h (by decide)
    refine key (0 + 1) (by omega) ?_
    rw [show (toS a).1 + (0 + 1) = (toS a).1 + 1 from by omega]
    omega
  · rcases yb_cases h with ⟨e, hc⟩ | ⟨e, hc, hl⟩
    · rw [e]
      refine key _ ?_ ?_
      · have := ybS_bd a b; omega
      · rw [show (toS a).1 + ((toS b).1 - (toS a).1 + 1) = (toS b).1 + 1 from by omega]
        exact hyb.2
    · rw [e, show (toS b).1 - (toS a).1 - 1 + 1 = (toS b).1 - (toS a).1 from by omega]
      exact .inr hc
end Go.Proofs.YtjeifmjcgemlgaaGreatDoor
/- What the functions of package date compute: leap years, lengths of months, FromYMD, ToYMD. -/
namespace Go.Proofs.YtjeifmjcgemlgaaGreatDoor
open Go.RowKit

/-- the table of the lengths of the months lies in its block -/
def Mon (w : World) : Prop := ∀ i, i < 12 → w.cell? ⟨0, i, none⟩ = some (.int .i64 (mlens[i]?.getD 0))
theorem Mon.lt {w : World} (h : Mon w) : 0 < w.heap.size := by
  have h0 := h 0 (by omega)
  rcases Nat.lt_or_ge 0 w.heap.size with hl | hg
  · exact hl
  · simp [World.cell?, Array.getElem?_eq_none hg] at h0
theorem Mon.kept {w w' : World} (h : Mon w) (hk : Kept w w') : Mon w' := fun i hi => hk.cell (p := ⟨0, i, none⟩) h.lt (h i hi)
theorem Mon.drew {w : World} (h : Mon w) : Mon w.drew := h
theorem Mon.drewN {w : World} (h : Mon w) (k : Nat) : Mon (w.drewN k) := h

set_option maxHeartbeats 400000 in
theorem leap_any (y : Int) (w : World) :
    Calls Tryz.prog 78 #[.int .i64 y] w fun e w' => e = .returned (.bool (leapB y)) ∧ w = w' := by
  go_enter Tryz.func78, Tryz.ntmps78
  go_wp2
  all_goals (go_ret; exact ⟨ret_bool (by simp_all [leapB]), rfl⟩)

set_option maxHeartbeats 400000 in
theorem dim_any (y m : Int) (w : World) (hM : Mon w) :
    Calls Tryz.prog 55 #[.int .i64 y, .int .i64 m] w fun e w' => e = .returned (.int .i64 (dimS y m)) ∧ w = w' := by
  by_cases hm : m < 1
  · go_enter Tryz.func55, Tryz.ntmps55
    go_wp2_with fail
    go_ret
    exact ⟨ret_int (by rw [dimS_out (.inl hm)]), rfl⟩
  · by_cases hm2 : 12 < m
    · go_enter Tryz.func55, Tryz.ntmps55
      go_wp2_with fail
      go_ret
      exact ⟨ret_int (by rw [dimS_out (.inr hm2)]), rfl⟩
    · have h1 : 1 ≤ m := by omega
      have h2 : m ≤ 12 := by omega
      have hc : w.cell? ⟨0, m.toNat - 1, none⟩ = some (.int .i64 (mlens[(m - 1).toNat]?.getD 0)) := by
        have := hM (m.toNat - 1) (by omega)
        rwa [show (m - 1).toNat = m.toNat - 1 from by omega]
      have hc1 := hM 1 (by omega)
      clear hM hm hm2
      cases h3 : (m == 2)
      · have h4 : m ≠ 2 := by simpa using h3
        have HR := Lib.hid (dimS_in (y := y) h1 h2 h4)
        clear h4 hc1
        go_enter Tryz.func55, Tryz.ntmps55
        go_wp2_with fail
        go_ret
        exact ⟨ret_int (by rw [HR.out, show (m - 1).toNat = m.toNat - 1 from by omega]), rfl⟩
      · obtain rfl : m = 2 := by simpa using h3
        clear hc
        have HR := Lib.hid (dimS_feb y)
        cases hl : leapB y
        all_goals
          have HL := Lib.hid (show leapI y = _ by unfold leapI; rw [hl])
          go_enter Tryz.func55, Tryz.ntmps55
          go_wp2_with (go_at_call 78; refine (leap_any _ _).mono ?_; rintro e w' ⟨rfl, rfl⟩)
          go_ret
          exact ⟨ret_int (by rw [HR.out, HL.out]; rfl), rfl⟩

set_option maxHeartbeats 400000 in
theorem leapYears_any (y : Int) (w : World) (h0 : 0 ≤ y) (h1 : y ≤ 10000) :
    Calls Tryz.prog 77 #[.int .i64 y] w fun e w' => e = .returned (.int .i64 (leapsTo y)) ∧ w = w' := by
  go_enter Tryz.func77, Tryz.ntmps77
  go_wp2
  go_ret
  exact ⟨rfl, rfl⟩
theorem leapsTo_bd (y : Int) (h0 : 0 ≤ y) (h1 : y ≤ 10000) : 0 ≤ leapsTo y ∧ leapsTo y ≤ 3000 := by unfold leapsTo; omega
set_option maxHeartbeats 400000 in
theorem ys_any (y : Int) (w : World) (h0 : 1900 ≤ y) (h1 : y ≤ 2300) :
    Calls Tryz.prog 54 #[.int .i64 y] w fun e w' => e = .returned (.int .i64 (ysS y)) ∧ w = w' := by
  have b1 := leapsTo_bd (y - 1) (by omega) (by omega)
  have b2 := leapsTo_bd 1899 (by omega) (by omega)
  go_enter Tryz.func54, Tryz.ntmps54
  go_wp2_with (go_at_call 77; refine (leapYears_any _ _ (by omega) (by omega)).mono ?_; rintro e w' ⟨rfl, rfl⟩)
  go_ret
  exact ⟨rfl, rfl⟩

theorem ymd_no {y m d : Int} (h : ymdB y m d = false) : y < 1900 ∨ (1900 ≤ y ∧ 2199 < y) ∨ (1900 ≤ y ∧ y ≤ 2199 ∧ m < 1) ∨ (1900 ≤ y ∧ y ≤ 2199 ∧ 1 ≤ m ∧ 12 < m) ∨
    (1900 ≤ y ∧ y ≤ 2199 ∧ 1 ≤ m ∧ m ≤ 12 ∧ d < 1) ∨ (1900 ≤ y ∧ y ≤ 2199 ∧ 1 ≤ m ∧ m ≤ 12 ∧ 1 ≤ d ∧ dimS y m < d) := by
  have h' : ¬ (1900 ≤ y ∧ y ≤ 2199 ∧ 1 ≤ m ∧ m ≤ 12 ∧ 1 ≤ d ∧ d ≤ dimS y m) := by rw [← ymdB_iff, h]; simp
  omega
theorem from_ret {r : Int × Int} {a b : Int} (h : r = (a, b)) : Ending.returned (.tuple #[.int .i64 a, .int .i64 b]) = .returned (.tuple #[.int .i64 r.1, .int .i64 r.2]) := by rw [h]
theorem from_end {y m d : Int} {k : Nat} (h : ymdB y m d = true) (hk : (k : Int) = m - 1) : fromS y m d = (ysS y + cumM y k + d - 1, 0) := by
  unfold fromS dayNo
  rw [if_pos h, show (m - 1).toNat = k from by omega]
set_option maxHeartbeats 400000 in
theorem fromYMD_any (y m d : Int) (w : World) (hM : Mon w) :
    Calls Tryz.prog 42 #[.int .i64 y, .int .i64 m, .int .i64 d] w fun e w' => e = .returned (.tuple #[.int .i64 (fromS y m d).1, .int .i64 (fromS y m d).2]) ∧ w = w' := by
  cases hv : ymdB y m d
  · have HR := Lib.hid (show fromS y m d = (0, 3) by unfold fromS; rw [hv]; rfl)
    have h' := ymd_no hv
    clear hv
    rcases h' with h1 | ⟨h1, h2⟩ | ⟨h1, h2, h3⟩ | ⟨h1, h2, h3, h4⟩ | ⟨h1, h2, h3, h4, h5⟩ | ⟨h1, h2, h3, h4, h5, h6⟩
    all_goals
      go_enter Tryz.func42, Tryz.ntmps42
      go_wp2_with (go_at_call 55; refine (dim_any _ _ _ hM).mono ?_; rintro e w' ⟨rfl, rfl⟩)
      go_ret2
      exact ⟨from_ret HR.out, rfl⟩
  · have HV := Lib.hid hv
    obtain ⟨h1, h2, h3, h4, h5, h6⟩ := ymdB_iff.1 hv
    have hb := ysS_bd y h1 (by omega)
    have hd := dimS_le y m
    clear hv
    go_enter Tryz.func42, Tryz.ntmps42
    go_wp2_with (first | (go_at_call 55; refine (dim_any _ _ _ hM).mono ?_; rintro e w' ⟨rfl, rfl⟩) | (go_at_call 54; refine (ys_any _ _ h1 (by omega)).mono ?_; rintro e w' ⟨rfl, rfl⟩))
    go_loop [8, 9, 39] (fun x z k => ∃ j : Nat, (j : Int) ≤ m - 1 ∧ k = .int .i64 j ∧ x = .int .i64 (ysS y + cumM y j)) (fun _ _ k => (m - 1 - intOf k).toNat)
    case atStart => exact ⟨0, by omega, rfl, by simp [cumM]⟩
    case round =>
      obtain ⟨j, hj, rfl, rfl⟩ := hrel
      have hc := cumM_bd y j (by omega)
      have hd2 := dimS_le y (j + 1)
      by_cases hlt : (j : Int) < m - 1
      · go_wp2_with (go_at_call 55; refine (dim_any _ _ _ hM).mono ?_; rintro e w' ⟨rfl, rfl⟩)
        go_round
        case rel => exact ⟨j + 1, by omega, by go_num, by rw [cumM]; congr 1; omega⟩
        case measure => simp only [intOf]; omega
      · have hj' : (j : Int) = m - 1 := by omega
        have HJ := Lib.hid hj'
        clear hj'
        go_wp2_with fail
        go_ret2
        exact ⟨from_ret (from_end HV.out HJ.out), rfl⟩
end Go.Proofs.YtjeifmjcgemlgaaGreatDoor
/- What date.ToYMD, Weekday, AddMonths and YearsBetween compute. -/
namespace Go.Proofs.YtjeifmjcgemlgaaGreatDoor
open Go.RowKit

set_option maxHeartbeats 400000 in
theorem dvalid_any (d : Int) (w : World) :
    Calls Tryz.prog 36 #[.int .i64 d] w fun e w' => e = .returned (.bool (isDate d)) ∧ w = w' := by
  go_enter Tryz.func36, Tryz.ntmps36
  go_wp2
  all_goals (go_ret; exact ⟨ret_bool (by simp [isDate]; try omega), rfl⟩)

theorem ret_int3 {r : Int × Int × Int} {a b c : Int} (h : r = (a, b, c)) : Ending.returned (.tuple #[.int .i64 a, .int .i64 b, .int .i64 c]) = .returned (.tuple #[.int .i64 r.1, .int .i64 r.2.1, .int .i64 r.2.2]) := by rw [h]
theorem toS_at {n y : Int} {j : Nat} (h1 : 1900 ≤ y) (h2 : y ≤ 2199) (hj : j < 12) (h0 : 0 ≤ n - ysS y - cumM y j) (h3 : n - ysS y - cumM y j < dimS y (j + 1)) : toS n = (y, (j : Int) + 1, n - ysS y - cumM y j + 1) := by
  refine toS_eq (ymdB_iff.2 ⟨h1, h2, by omega, by omega, by omega, by omega⟩) ?_
  unfold dayNo
  rw [show ((j : Int) + 1 - 1).toNat = j from by omega]; omega
set_option maxHeartbeats 1000000 in
theorem toYMD_any (n : Int) (w : World) (hM : Mon w) :
    Calls Tryz.prog 37 #[.int .i64 n] w fun e w' => e = .returned (.tuple #[.int .i64 (toS n).1, .int .i64 (toS n).2.1, .int .i64 (toS n).2.2]) ∧ w = w' := by
  cases hd : isDate n
  · have HR := Lib.hid (toS_no (isDate_not.1 hd))
    go_enter Tryz.func37, Tryz.ntmps37
    go_wp2_with (go_at_call 36; refine (dvalid_any _ _).mono ?_; rintro e w' ⟨rfl, rfl⟩)
    go_ret3
    exact ⟨ret_int3 HR.out, rfl⟩
  · have hdd := isDate_iff.1 hd
    have n0 := hdd.1
    have n1 := hdd.2
    clear hdd
    go_enter Tryz.func37, Tryz.ntmps37
    go_wp2_with (go_at_call 36; refine (dvalid_any _ _).mono ?_; rintro e w' ⟨rfl, rfl⟩)
    have hst := ysS_bd (1900 + n / 366) (by omega) (by omega)
    go_loop [5] (fun x => ∃ y : Int, x = .int .i64 y ∧ 1900 ≤ y ∧ y ≤ 2199 ∧ ysS y ≤ n) (fun x => (2200 - intOf x).toNat)
    case atStart => exact ⟨_, rfl, by omega, by omega, by omega⟩
    case round =>
      obtain ⟨y, rfl, h1, h2, h3⟩ := hrel
      clear hst
      by_cases hlt : ysS (y + 1) ≤ n
      · have hne : y ≠ 2199 := by
          rintro rfl
          have : ysS (2199 + 1) = 109573 := ysS_2200
          omega
        have hy : y + 1 ≤ 2199 := by omega
        clear hne
        go_wp2_with (go_at_call 54; refine (ys_any _ _ (by omega) (by omega)).mono ?_; rintro e w' ⟨rfl, rfl⟩)
        go_round
        case rel => exact ⟨y + 1, rfl, by omega, hy, hlt⟩
        case measure => simp only [intOf]; omega
      · have hnx := ysS_succ y (by omega)
        have hcum := cumM_12 y
        have hbd := ysS_bd y h1 (by omega)
        have HNX := Lib.hid hnx
        have HCUM := Lib.hid hcum
        have hlt' : n < ysS (y + 1) := by omega
        clear hnx hcum hlt
        go_wp2_with (go_at_call 54; refine (ys_any _ _ (by omega) (by omega)).mono ?_; rintro e w' ⟨rfl, rfl⟩)
        go_loop [6, 7, 8, 26] (fun r z l k => ∃ j : Nat, j ≤ 12 ∧ k = .int .i64 j ∧ r = .int .i64 (n - ysS y - cumM y j) ∧ 0 ≤ n - ysS y - cumM y j) (fun _ _ _ k => (12 - intOf k).toNat)
        case atStart => exact ⟨0, by omega, rfl, by simp [cumM], by simp [cumM]; omega⟩
        case round =>
          obtain ⟨j, hj, rfl, rfl, hr⟩ := hrel
          have hcb := cumM_bd y j hj
          by_cases hj12 : j < 12
          · have hdl := dimS_le y (j + 1)
            by_cases hrd : n - ysS y - cumM y j < dimS y (j + 1)
            · have HR := Lib.hid (toS_at h1 h2 hj12 hr hrd)
              go_wp2_with (go_at_call 55; refine (dim_any _ _ _ hM).mono ?_; rintro e w' ⟨rfl, rfl⟩)
              go_ret3
              exact ⟨ret_int3 HR.out, rfl⟩
            · go_wp2_with (go_at_call 55; refine (dim_any _ _ _ hM).mono ?_; rintro e w' ⟨rfl, rfl⟩)
              go_round
              case rel => exact ⟨j + 1, by omega, by go_num, by rw [cumM]; congr 1; omega, by rw [cumM]; omega⟩
              case measure => simp only [intOf]; omega
          · exfalso
            obtain rfl : j = 12 := by omega
            have := HNX.out
            have := HCUM.out
            omega
end Go.Proofs.YtjeifmjcgemlgaaGreatDoor
/- What date.Weekday, AddMonths and YearsBetween compute. -/
namespace Go.Proofs.YtjeifmjcgemlgaaGreatDoor
open Go.RowKit

def wdS (d : Int) : Int := if isDate d then d % 7 else -1
theorem addOk_not {a n : Int} (h : addOk a n = false) : isDate a = false ∨ (isDate a = true ∧ n < -3600) ∨ (isDate a = true ∧ -3600 ≤ n ∧ 3600 < n) ∨
    (isDate a = true ∧ -3600 ≤ n ∧ n ≤ 3600 ∧ monS a n < 0) ∨ (isDate a = true ∧ -3600 ≤ n ∧ n ≤ 3600 ∧ 0 ≤ monS a n ∧ 3599 < monS a n) := by
  cases hd : isDate a
  · exact .inl rfl
  · have h' : ¬ (isDate a = true ∧ -3600 ≤ n ∧ n ≤ 3600 ∧ 0 ≤ monS a n ∧ monS a n ≤ 3599) := by rw [← addOk_iff, h]; simp
    simp only [hd, true_and] at h'
    simp only [true_and]
    simp only [show (true = false) = False from by simp]
    omega
theorem ybIn_not {a b : Int} (h : ybIn a b = false) : isDate a = false ∨ (isDate a = true ∧ isDate b = false) ∨ (isDate a = true ∧ isDate b = true ∧ b < a) := by
  unfold ybIn at h
  cases ha : isDate a
  · exact .inl rfl
  · cases hb : isDate b
    · exact .inr (.inl ⟨rfl, rfl⟩)
    · refine .inr (.inr ⟨rfl, rfl, ?_⟩)
      rw [ha, hb] at h
      simpa using h
end Go.Proofs.YtjeifmjcgemlgaaGreatDoor
/- What the functions of the reference of package date compute. -/
namespace Go.Proofs.YtjeifmjcgemlgaaGreatDoor
open Go.RowKit

theorem rymd_no {y m d : Int} (h : ymdB y m d = false) : y < 1900 ∨ (1900 ≤ y ∧ 2199 < y) ∨ (1900 ≤ y ∧ y ≤ 2199 ∧ d < 1) ∨ (1900 ≤ y ∧ y ≤ 2199 ∧ 1 ≤ d ∧ dimS y m < d) := by
  rcases ymd_no h with h | h | h | h | h | h
  · omega
  · omega
  · have := dimS_out (y := y) (m := m) (by omega); omega
  · have := dimS_out (y := y) (m := m) (by omega); omega
  · omega
  · omega
end Go.Proofs.YtjeifmjcgemlgaaGreatDoor
/- What the reference's ToYMD, Weekday, AddMonths and YearsBetween compute. -/
namespace Go.Proofs.YtjeifmjcgemlgaaGreatDoor
open Go.RowKit

/-- what the reference's AddMonths computes: the same, by another count of months -/
theorem addM_ref {a n : Int} (h : isDate a = true) (h1 : -3600 ≤ n) (h2 : n ≤ 3600) :
    addM a n = fromS ((12 * (toS a).1 + (toS a).2.1 - 1 + n) / 12) ((12 * (toS a).1 + (toS a).2.1 - 1 + n) % 12 + 1)
      (min (toS a).2.2 (dimS ((12 * (toS a).1 + (toS a).2.1 - 1 + n) / 12) ((12 * (toS a).1 + (toS a).2.1 - 1 + n) % 12 + 1))) := by
  have hm : 12 * (toS a).1 + (toS a).2.1 - 1 + n = monS a n + 12 * 1900 := by unfold monS; omega
  rw [hm, show (monS a n + 12 * 1900) / 12 = 1900 + monS a n / 12 from by omega, show (monS a n + 12 * 1900) % 12 = monS a n % 12 from by omega]
  cases hok : addOk a n
  · rw [addM_no hok, fromS_no]
    have hnot := addOk_not hok
    rw [h] at hnot
    cases hc : ymdB (1900 + monS a n / 12) (monS a n % 12 + 1) (min (toS a).2.2 (dimS (1900 + monS a n / 12) (monS a n % 12 + 1)))
    · rfl
    · have hc' := ymdB_iff.1 hc
      rcases hnot with hh | hh | hh | hh | hh
      · exact absurd hh (by decide)
      all_goals omega
  · exact addM_ok hok
end Go.Proofs.YtjeifmjcgemlgaaGreatDoor
/- What date.digits and the reference's Digits compute. -/
namespace Go.Proofs.YtjeifmjcgemlgaaGreatDoor
open Go.RowKit

theorem iter_kept {a w : World} (h : Kept a w) (s : ByteArray) (p : Nat) : Kept a (w.iter s p) := h.alloc _
theorem dig_ret {l : List UInt8} {v : Int} {b : Bool} (h1 : digV l = v) (h2 : digB l = b) : Ending.returned (.tuple #[.int .i64 v, .bool b]) = .returned (.tuple #[.int .i64 (digV l), .bool (digB l)]) := by rw [h1, h2]

set_option maxHeartbeats 1000000 in
theorem digits_any (s : ByteArray) (hs : s.size ≤ 9) (w : World) :
    Calls Tryz.prog 41 #[.string s] w fun e w' => e = .returned (.tuple #[.int .i64 (digV (L s)), .bool (digB (L s))]) ∧ Kept w w' := by
  go_enter Tryz.func41, Tryz.ntmps41
  go_wp2
  go_loopw [4] (fun n w' => ∃ pos : Nat, pos ≤ s.size ∧ w' = w.iter s pos ∧ n = .int .i64 (val ((L s).take pos) 0 : Nat) ∧ ((L s).take pos).all isDig = true) (fun _ w' => s.size - w'.iterPos w.heap.size)
  case atStart => exact ⟨0, Nat.zero_le _, rfl, rfl, rfl⟩
  case round =>
    obtain ⟨pos, hps, rfl, rfl, hall⟩ := hrel
    by_cases hp : pos < s.size
    · have hv := val_lt9 hall (by simp; omega)
      cases hd : isDig s[pos]
      · have HV := Lib.hid (digV_no (not_dig hp hd))
        have HB := Lib.hid (show digB (L s) = false from not_dig hp hd)
        have hr : (Utf8.decode s pos).1 < 48 ∨ (48 ≤ (Utf8.decode s pos).1 ∧ 57 < (Utf8.decode s pos).1) := by
          by_cases ha : (s[pos]'hp).toNat < 128
          · rw [decode_ascii s pos hp ha]
            have hd' : ¬ (48 ≤ s[pos].toNat ∧ s[pos].toNat ≤ 57) := fun h => by rw [isDig_iff.2 h] at hd; cases hd
            simp only; omega
          · have := (decode_high s pos hp (by omega)).1
            omega
        have hle := decode_le s pos
        have hnx : ∀ ty, (Instr.next (.pointer (some ⟨w.heap.size, 0, none⟩)) true ty).run Tryz.prog (w.iter s pos) = _ := fun ty => run_next_any w s pos ty hp
        generalize (Utf8.decode s pos).1 = r at *
        rcases hr with h | ⟨h, h'⟩
        all_goals
          go_wp2
          go_ret2
          exact ⟨dig_ret HV.out HB.out, iter_kept (Kept.refl _) _ _⟩
      · have hd' := isDig_iff.1 hd
        have e : val ((L s).take (pos + 1)) 0 = 10 * val ((L s).take pos) 0 + dval s[pos] := by rw [L_take s pos hp, val_snoc]
        have e2 : dval s[pos] = s[pos].toNat - 48 := rfl
        have e3 : ((L s).take (pos + 1)).all isDig = true := by rw [take_dig hp, hall, hd]; rfl
        have E := Lib.hid e
        have E3 := Lib.hid e3
        clear e e3
        generalize val ((L s).take pos) 0 = v at *
        have hnx : ∀ ty, (Instr.next (.pointer (some ⟨w.heap.size, 0, none⟩)) true ty).run Tryz.prog (w.iter s pos) = _ := fun ty => run_next_ascii w s pos ty hp (by omega)
        generalize hb : s[pos].toNat = b at *
        go_wp2
        go_roundw
        case rel => exact ⟨pos + 1, hp, rfl, by rw [E.out, e2]; congr 1; omega, E3.out⟩
        case measure => simp; omega
    · rw [L_take_all s pos hp] at hall ⊢
      have HV := Lib.hid (digV_yes (l := L s) hall)
      have HB := Lib.hid (show digB (L s) = true from hall)
      have hnx : ∀ ty, (Instr.next (.pointer (some ⟨w.heap.size, 0, none⟩)) true ty).run Tryz.prog (w.iter s pos) = _ := fun ty => run_next_end w s pos ty hp
      generalize val (L s) 0 = v at *
      go_wp2
      go_ret2
      exact ⟨dig_ret HV.out HB.out, iter_kept (Kept.refl _) _ _⟩

end Go.Proofs.YtjeifmjcgemlgaaGreatDoor
