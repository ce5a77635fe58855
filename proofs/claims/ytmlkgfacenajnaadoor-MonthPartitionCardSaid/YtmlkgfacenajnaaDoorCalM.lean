/- Plain facts about calendars of working days: what the program and the reference compute, as functions on integers and lists. No program stands here. -/
import Derived.Laws.BitsAllLaws
import Derived.Laws.BitsLemmas
namespace Go.Proofs.YtmlkgfacenajnaaDoor.Cal

def isDate (d : Int) : Bool := decide (0 ≤ d) && decide (d ≤ 109572)
theorem isDate_iff {d : Int} : isDate d = true ↔ 0 ≤ d ∧ d ≤ 109572 := by simp [isDate]
theorem isDate_not {d : Int} : isDate d = false ↔ d < 0 ∨ 109572 < d := by simp [isDate]; omega

def ValidCal (wk : Int) (hs : List Int) : Prop :=
  0 ≤ wk ∧ wk ≤ 126 ∧ hs.length ≤ 64 ∧ ∀ i, i < hs.length → isDate (hs[i]?.getD 0) = true ∧ (0 < i → hs[i - 1]?.getD 0 < hs[i]?.getD 0)
instance (wk : Int) (hs : List Int) : Decidable (ValidCal wk hs) := by unfold ValidCal; infer_instance
def vcalB (wk : Int) (hs : List Int) : Bool := decide (ValidCal wk hs)
theorem vcalB_iff {wk : Int} {hs : List Int} : vcalB wk hs = true ↔ ValidCal wk hs := by simp [vcalB]
theorem vcalB_no {wk : Int} {hs : List Int} (h : ¬ ValidCal wk hs) : vcalB wk hs = false := by simp [vcalB, h]

theorem ValidCal.mono {wk : Int} {hs : List Int} (h : ValidCal wk hs) : ∀ i j, i < j → j < hs.length → hs[i]?.getD 0 < hs[j]?.getD 0 := by
  intro i j hij hj
  induction j with
  | zero => omega
  | succ j ih =>
    have hs' := (h.2.2.2 (j + 1) hj).2 (by omega)
    simp only [Nat.add_sub_cancel] at hs'
    by_cases e : i = j
    · subst e; exact hs'
    · have := ih (by omega) (by omega); omega

/-- the bit of a weekday -/
def dayOff (wk : Int) (d : Int) : Bool := (wk / 2 ^ (d % 7).toNat) % 2 != 0
def holiday (hs : List Int) (d : Int) : Bool := decide (d ∈ hs)
def workB (wk : Int) (hs : List Int) (d : Int) : Bool := !dayOff wk d && !holiday hs d
def isWorkB (wk : Int) (hs : List Int) (d : Int) : Bool := vcalB wk hs && isDate d && workB wk hs d

theorem ofInt_i64 (a : Nat) (ha : a < 9223372036854775808) : (BitVec.ofInt 64 (a : Int)).toNat = a := by
  rw [BitVec.ofInt_natCast, BitVec.toNat_ofNat]; exact Nat.mod_eq_of_lt (by omega)
theorem i64_and_nat (a b : Nat) (ha : a < 9223372036854775808) (hb : b < 9223372036854775808) : bits .and .i64 (a : Int) (b : Int) = ((a &&& b : Nat) : Int) := by
  have hx : a &&& b < 2 ^ 63 := Nat.and_lt_two_pow _ (by omega)
  show IntKind.i64.wrap ((BitVec.ofInt 64 (a : Int) &&& BitVec.ofInt 64 (b : Int)).toNat : Int) = _
  rw [BitVec.toNat_and, ofInt_i64 a ha, ofInt_i64 b hb, IntKind.wrap_i64]
  omega
theorem and_one (x : Int) (h0 : 0 ≤ x) (h1 : x ≤ 126) : bits .and .i64 x 1 = x % 2 := by
  obtain ⟨n, rfl⟩ := Int.eq_ofNat_of_zero_le h0
  have := i64_and_nat n 1 (by omega) (by omega)
  rw [Nat.and_one_is_mod] at this
  simpa using this
theorem shr_le (wk : Int) (k : Nat) (h0 : 0 ≤ wk) (h1 : wk ≤ 126) : 0 ≤ wk / 2 ^ k ∧ wk / 2 ^ k ≤ 126 := by
  have hp : (0 : Int) < 2 ^ k := Int.pow_pos (by omega)
  refine ⟨Int.ediv_nonneg h0 (by omega), ?_⟩
  have := Int.ediv_le_self (2 ^ k) h0
  omega
theorem bit_eq (wk : Int) (k : Nat) (h0 : 0 ≤ wk) (h1 : wk ≤ 126) : bits .and .i64 (wk / 2 ^ k) 1 = (wk / 2 ^ k) % 2 :=
  and_one _ (shr_le wk k h0 h1).1 (shr_le wk k h0 h1).2
theorem bit_off (wk d : Int) (h0 : 0 ≤ wk) (h1 : wk ≤ 126) : (bits .and .i64 (wk / 2 ^ (d % 7).toNat) 1 != 0) = dayOff wk d := by
  rw [bit_eq _ _ h0 h1]; rfl

/-- the n-th day from d on with a property, at most f days looked at -/
def nthF (p : Int → Bool) : Nat → Int → Int → Int × Int
  | 0, _, _ => (0, 6)
  | f + 1, d, n => if p d then (if n = 1 then (d, 0) else nthF p f (d + 1) (n - 1)) else nthF p f (d + 1) n
def nthS (wk : Int) (hs : List Int) (d n : Int) : Int × Int := nthF (workB wk hs) (109573 - d).toNat d n
theorem nthS_end (wk : Int) (hs : List Int) (d n : Int) (h : 109572 < d) : nthS wk hs d n = (0, 6) := by
  unfold nthS
  rw [show (109573 - d).toNat = 0 from by omega]; rfl
theorem nthS_no (wk : Int) (hs : List Int) (d n : Int) (h : d ≤ 109572) (hp : workB wk hs d = false) : nthS wk hs d n = nthS wk hs (d + 1) n := by
  unfold nthS
  rw [show (109573 - d).toNat = (109573 - (d + 1)).toNat + 1 from by omega, nthF]
  simp [hp]
theorem nthS_hit (wk : Int) (hs : List Int) (d n : Int) (h : d ≤ 109572) (hp : workB wk hs d = true) (hn : n = 1) : nthS wk hs d n = (d, 0) := by
  unfold nthS
  rw [show (109573 - d).toNat = (109573 - (d + 1)).toNat + 1 from by omega, nthF]
  simp [hp, hn]
theorem nthS_on (wk : Int) (hs : List Int) (d n : Int) (h : d ≤ 109572) (hp : workB wk hs d = true) (hn : n ≠ 1) : nthS wk hs d n = nthS wk hs (d + 1) (n - 1) := by
  unfold nthS
  rw [show (109573 - d).toNat = (109573 - (d + 1)).toNat + 1 from by omega, nthF]
  simp [hp, hn]

def nextS (wk : Int) (hs : List Int) (d : Int) : Int × Int := if vcalB wk hs then (if isDate d then nthS wk hs d 1 else (0, 3)) else (0, 1)
def addS (wk : Int) (hs : List Int) (d n : Int) : Int × Int :=
  if vcalB wk hs then (if isDate d && decide (0 ≤ n) && decide (n ≤ 365) then (if n = 0 then nextS wk hs d else nthS wk hs (d + 1) n) else (0, 3)) else (0, 1)

/-- how many of the k days from a on have a property -/
def cnt (p : Int → Bool) (a : Int) : Nat → Nat
  | 0 => 0
  | k + 1 => cnt p a k + if p (a + k) then 1 else 0
theorem cnt_le (p : Int → Bool) (a : Int) (k : Nat) : cnt p a k ≤ k := by
  induction k with
  | zero => exact Nat.le_refl _
  | succ k ih => rw [cnt]; split <;> omega
theorem cnt_add (p : Int → Bool) (a : Int) (j k : Nat) : cnt p a (j + k) = cnt p a j + cnt p (a + j) k := by
  induction k with
  | zero => rfl
  | succ k ih =>
    rw [← Nat.add_assoc, cnt, cnt, ih, show a + ((j + k : Nat) : Int) = a + j + k from by omega]
    omega
theorem cnt_front (p : Int → Bool) (a : Int) (k : Nat) : cnt p a (k + 1) = (if p a then 1 else 0) + cnt p (a + 1) k := by
  rw [show k + 1 = 1 + k from by omega, cnt_add]
  simp [cnt]
theorem cnt_congr {p q : Int → Bool} {a : Int} {k : Nat} (h : ∀ i : Nat, i < k → p (a + i) = q (a + i)) : cnt p a k = cnt q a k := by
  induction k with
  | zero => rfl
  | succ k ih => rw [cnt, cnt, ih (fun i hi => h i (by omega)), h k (by omega)]

def rangeB (a b : Int) : Bool := decide (0 ≤ a) && decide (a ≤ b) && decide (b ≤ 109573)
theorem rangeB_iff {a b : Int} : rangeB a b = true ↔ 0 ≤ a ∧ a ≤ b ∧ b ≤ 109573 := by simp [rangeB]; omega
theorem rangeB_no {a b : Int} : rangeB a b = false ↔ ¬ (0 ≤ a ∧ a ≤ b ∧ b ≤ 109573) := by simp [rangeB]
def countS (wk : Int) (hs : List Int) (a b : Int) : Int := if vcalB wk hs && rangeB a b then (cnt (workB wk hs) a (b - a).toNat : Int) else 0

/-! The formula of the program's Count -/
def wdb (d wd : Int) : Int := (d - wd + 6) / 7
/-- the first loop: the weekdays below k -/
def sumW (wk : Int) (a b : Int) : Nat → Int
  | 0 => 0
  | k + 1 => sumW wk a b k + if (wk / 2 ^ k) % 2 = 0 then wdb b k - wdb a k else 0
def hitB (wk a b h : Int) : Bool := (decide (a ≤ h) && decide (h < b)) && !dayOff wk h
/-- the second loop: the holidays below k -/
def subH (wk a b : Int) (hs : List Int) : Nat → Int
  | 0 => 0
  | k + 1 => subH wk a b hs k + if hitB wk a b (hs[k]?.getD 0) then 1 else 0
theorem sumW_bd (wk a b : Int) (h0 : 0 ≤ a) (h1 : a ≤ b) (h2 : b ≤ 109573) : ∀ k, k ≤ 7 → 0 ≤ sumW wk a b k ∧ sumW wk a b k ≤ 20000 * k := by
  intro k hk
  induction k with
  | zero => simp [sumW]
  | succ k ih =>
    have := ih (by omega)
    rw [sumW]
    unfold wdb
    split <;> omega
theorem subH_bd (wk a b : Int) (hs : List Int) : ∀ k, 0 ≤ subH wk a b hs k ∧ subH wk a b hs k ≤ k := by
  intro k
  induction k with
  | zero => simp [subH]
  | succ k ih =>
    rw [subH]
    split <;> omega

def cntI (p : Int → Bool) (a : Int) (k : Nat) : Int := (cnt p a k : Int)

theorem sumW_zero (wk a : Int) : ∀ k, sumW wk a a k = 0 := by
  intro k
  induction k with
  | zero => rfl
  | succ k ih => rw [sumW, ih]; split <;> omega
theorem wdb_step (b : Int) (k : Nat) (hk : k < 7) : wdb (b + 1) k = wdb b k + if b % 7 = (k : Int) then 1 else 0 := by
  unfold wdb
  split <;> omega
theorem sumW_step (wk a b : Int) (_hb : 0 ≤ b) : ∀ k, k ≤ 7 → sumW wk a (b + 1) k = sumW wk a b k + if (b % 7).toNat < k ∧ dayOff wk b = false then 1 else 0 := by
  intro k hk
  induction k with
  | zero => simp [sumW]
  | succ k ih =>
    rw [sumW, sumW, ih (by omega), wdb_step b k (by omega)]
    have hm : 0 ≤ b % 7 := by omega
    by_cases e : b % 7 = (k : Int)
    · have e' : (b % 7).toNat = k := by omega
      have hd : dayOff wk b = ((wk / 2 ^ k) % 2 != 0) := by unfold dayOff; rw [e']
      rw [hd, e', if_pos e]
      by_cases hz : (wk / 2 ^ k) % 2 = 0
      · simp [hz]; omega
      · simp [hz]
    · have e' : (b % 7).toNat ≠ k := by omega
      rw [if_neg e]
      have hl : ((b % 7).toNat < k + 1 ∧ dayOff wk b = false) ↔ ((b % 7).toNat < k ∧ dayOff wk b = false) := by constructor <;> (rintro ⟨h1, h2⟩; exact ⟨by omega, h2⟩)
      simp only [hl]
      split <;> split <;> omega
theorem sumW_cnt (wk a : Int) (ha : 0 ≤ a) (k : Nat) : sumW wk a (a + k) 7 = (cnt (fun d => !dayOff wk d) a k : Nat) := by
  induction k with
  | zero => simpa [cnt] using sumW_zero wk a 7
  | succ k ih =>
    rw [show a + ((k + 1 : Nat) : Int) = a + k + 1 from by omega, sumW_step wk a (a + k) (by omega) 7 (Nat.le_refl _), ih, cnt]
    have hm : ((a + k) % 7).toNat < 7 := by omega
    cases hd : dayOff wk (a + k) <;> simp [hm]

theorem subH_zero (wk a : Int) (hs : List Int) : ∀ k, subH wk a a hs k = 0 := by
  intro k
  induction k with
  | zero => rfl
  | succ k ih =>
    have : hitB wk a a (hs[k]?.getD 0) = false := by
      unfold hitB
      by_cases h : a ≤ hs[k]?.getD 0
      · simp; omega
      · simp; omega
    rw [subH, ih, this]; rfl
/-- one day more: it is a holiday among the first k or not -/
theorem subH_step (wk a b : Int) (hs : List Int) (hab : a ≤ b) (hmono : ∀ i j, i < j → j < hs.length → hs[i]?.getD 0 < hs[j]?.getD 0) :
    ∀ k, k ≤ hs.length → subH wk a (b + 1) hs k = subH wk a b hs k + if dayOff wk b = false ∧ (∃ i, i < k ∧ hs[i]?.getD 0 = b) then 1 else 0 := by
  intro k hk
  induction k with
  | zero => simp [subH]
  | succ k ih =>
    rw [subH, subH, ih (by omega)]
    by_cases e : hs[k]?.getD 0 = b
    · have hno : ¬ ∃ i, i < k ∧ hs[i]?.getD 0 = b := by
        rintro ⟨i, hi, hb⟩
        have := hmono i k hi (by omega)
        omega
      have hyes : ∃ i, i < k + 1 ∧ hs[i]?.getD 0 = b := ⟨k, by omega, e⟩
      have h1 : hitB wk a b (hs[k]?.getD 0) = false := by rw [e]; simp [hitB]
      have h2 : hitB wk a (b + 1) (hs[k]?.getD 0) = !dayOff wk b := by
        rw [e]; unfold hitB; simp [hab]; intro; omega
      rw [h1, h2]
      cases hd : dayOff wk b <;> simp [hno, hyes]
    · have hl : (∃ i, i < k + 1 ∧ hs[i]?.getD 0 = b) ↔ (∃ i, i < k ∧ hs[i]?.getD 0 = b) := by
        constructor
        · rintro ⟨i, hi, hb⟩
          by_cases hik : i = k
          · subst hik; exact absurd hb e
          · exact ⟨i, by omega, hb⟩
        · rintro ⟨i, hi, hb⟩; exact ⟨i, by omega, hb⟩
      have h1 : hitB wk a (b + 1) (hs[k]?.getD 0) = hitB wk a b (hs[k]?.getD 0) := by
        unfold hitB
        have : decide (hs[k]?.getD 0 < b + 1) = decide (hs[k]?.getD 0 < b) := by
          apply decide_eq_decide.2; omega
        rw [this]
      rw [h1]
      simp only [hl]
      omega
theorem holiday_iff (hs : List Int) (b : Int) : holiday hs b = true ↔ ∃ i, i < hs.length ∧ hs[i]?.getD 0 = b := by
  unfold holiday
  rw [decide_eq_true_iff, List.mem_iff_getElem]
  constructor
  · rintro ⟨i, hi, e⟩; exact ⟨i, hi, by simp [hi, e]⟩
  · rintro ⟨i, hi, e⟩; exact ⟨i, hi, by simpa [hi] using e⟩
theorem count_formula (wk a : Int) (hs : List Int) (ha : 0 ≤ a) (hv : ValidCal wk hs) (k : Nat) :
    sumW wk a (a + k) 7 - subH wk a (a + k) hs hs.length = (cnt (workB wk hs) a k : Nat) := by
  rw [sumW_cnt wk a ha]
  induction k with
  | zero => simp [cnt, subH_zero]
  | succ k ih =>
    rw [show a + ((k + 1 : Nat) : Int) = a + k + 1 from by omega, subH_step wk a (a + k) hs (by omega) hv.mono _ (Nat.le_refl _), cnt, cnt]
    have hh := holiday_iff hs (a + k)
    unfold workB at *
    cases hd : dayOff wk (a + k) <;> cases hq : holiday hs (a + k)
    · have : ¬ ∃ i, i < hs.length ∧ hs[i]?.getD 0 = a + k := by rw [← hh, hq]; simp
      simp [this]; omega
    · have : ∃ i, i < hs.length ∧ hs[i]?.getD 0 = a + k := by rw [← hh, hq]
      simp [this]; omega
    · simp; omega
    · simp; omega
theorem countS_eq (wk a b : Int) (hs : List Int) (hv : vcalB wk hs = true) (hr : rangeB a b = true) :
    sumW wk a b 7 - subH wk a b hs hs.length = countS wk hs a b := by
  obtain ⟨h0, h1, h2⟩ := rangeB_iff.1 hr
  have := count_formula wk a hs h0 (vcalB_iff.1 hv) (b - a).toNat
  rw [show a + ((b - a).toNat : Int) = b from by omega] at this
  rw [this]
  simp [countS, hv, hr]

/-! What the laws say -/
theorem nthF_spec (p : Int → Bool) : ∀ (f : Nat) (d n : Int), 1 ≤ n → (nthF p f d n).2 = 0 →
    d ≤ (nthF p f d n).1 ∧ (nthF p f d n).1 < d + f ∧ p (nthF p f d n).1 = true ∧ (cnt p d ((nthF p f d n).1 + 1 - d).toNat : Int) = n := by
  intro f
  induction f with
  | zero => intro d n _ h; simp [nthF] at h
  | succ f ih =>
    intro d n hn h
    rw [nthF] at h ⊢
    by_cases hp : p d = true
    · rw [if_pos hp] at h ⊢
      by_cases h1 : n = 1
      · rw [if_pos h1]
        simp only
        refine ⟨by omega, by omega, hp, ?_⟩
        rw [show (d + 1 - d).toNat = 0 + 1 from by omega, cnt_front, if_pos hp]
        simp [cnt]; omega
      · rw [if_neg h1] at h ⊢
        obtain ⟨a1, a2, a3, a4⟩ := ih (d + 1) (n - 1) (by omega) h
        refine ⟨by omega, by omega, a3, ?_⟩
        rw [show ((nthF p f (d + 1) (n - 1)).1 + 1 - d).toNat = ((nthF p f (d + 1) (n - 1)).1 + 1 - (d + 1)).toNat + 1 from by omega, cnt_front, if_pos hp]
        omega
    · rw [if_neg hp] at h ⊢
      obtain ⟨a1, a2, a3, a4⟩ := ih (d + 1) n hn h
      refine ⟨by omega, by omega, a3, ?_⟩
      rw [show ((nthF p f (d + 1) n).1 + 1 - d).toNat = ((nthF p f (d + 1) n).1 + 1 - (d + 1)).toNat + 1 from by omega, cnt_front, if_neg hp]
      omega
theorem nthF_code (p : Int → Bool) : ∀ (f : Nat) (d n : Int), (nthF p f d n).2 = 0 ∨ (nthF p f d n) = (0, 6) := by
  intro f
  induction f with
  | zero => intro d n; right; rfl
  | succ f ih =>
    intro d n
    rw [nthF]
    split
    · split
      · left; rfl
      · exact ih _ _
    · exact ih _ _

theorem addS_law (wk : Int) (hs : List Int) (d n : Int) (hn : 1 ≤ n) (h : (addS wk hs d n).2 = 0) :
    d < (addS wk hs d n).1 ∧ isWorkB wk hs (addS wk hs d n).1 = true ∧ countS wk hs (d + 1) ((addS wk hs d n).1 + 1) = n ∧ vcalB wk hs = true ∧ isDate d = true ∧ (addS wk hs d n).1 ≤ 109572 := by
  unfold addS at h ⊢
  by_cases hv : vcalB wk hs = true
  · rw [if_pos hv] at h ⊢
    by_cases hd : (isDate d && decide (0 ≤ n) && decide (n ≤ 365)) = true
    · rw [if_pos hd] at h ⊢
      rw [if_neg (by omega)] at h ⊢
      have hd' : isDate d = true := by simp at hd; exact hd.1.1
      have hdd := isDate_iff.1 hd'
      unfold nthS at h ⊢
      obtain ⟨a1, a2, a3, a4⟩ := nthF_spec _ _ _ _ hn h
      refine ⟨by omega, ?_, ?_, hv, hd', by omega⟩
      · simp only [isWorkB, hv, a3, Bool.and_true, Bool.true_and]
        exact isDate_iff.2 ⟨by omega, by omega⟩
      · have hr : rangeB (d + 1) ((nthF (workB wk hs) (109573 - (d + 1)).toNat (d + 1) n).1 + 1) = true := rangeB_iff.2 ⟨by omega, by omega, by omega⟩
        unfold countS
        rw [hv, hr, if_pos (by rfl)]
        exact a4
    · rw [if_neg hd] at h; simp at h
  · rw [if_neg hv] at h; simp at h

theorem countS_add (wk : Int) (hs : List Int) (a b c : Int) (h0 : 0 ≤ a) (h1 : a ≤ b) (h2 : b ≤ c) (h3 : c ≤ 109573) :
    countS wk hs a b + countS wk hs b c = countS wk hs a c := by
  unfold countS
  rw [rangeB_iff.2 ⟨h0, h1, by omega⟩, rangeB_iff.2 ⟨by omega, h2, h3⟩, rangeB_iff.2 ⟨h0, by omega, h3⟩]
  by_cases hv : vcalB wk hs = true
  · simp only [hv, Bool.and_self, if_true]
    have := cnt_add (workB wk hs) a (b - a).toNat (c - b).toNat
    rw [show (b - a).toNat + (c - b).toNat = (c - a).toNat from by omega, show a + ((b - a).toNat : Int) = b from by omega] at this
    omega
  · simp [hv]
theorem countS_bd (wk : Int) (hs : List Int) (a b : Int) : 0 ≤ countS wk hs a b ∧ countS wk hs a b ≤ 109573 := by
  unfold countS
  by_cases h : (vcalB wk hs && rangeB a b) = true
  · rw [if_pos h]
    have := rangeB_iff.1 (by simp at h; exact h.2)
    have := cnt_le (workB wk hs) a (b - a).toNat
    omega
  · rw [if_neg h]; omega
theorem nextS_again (wk : Int) (hs : List Int) (d : Int) (h : (nextS wk hs d).2 = 0) :
    nextS wk hs (nextS wk hs d).1 = ((nextS wk hs d).1, 0) ∧ isWorkB wk hs (nextS wk hs d).1 = true := by
  unfold nextS at h
  by_cases hv : vcalB wk hs = true
  · rw [if_pos hv] at h
    by_cases hd : isDate d = true
    · rw [if_pos hd] at h
      have e : nextS wk hs d = nthS wk hs d 1 := by unfold nextS; rw [if_pos hv, if_pos hd]
      rw [e]
      have hdd := isDate_iff.1 hd
      have key := nthF_spec (workB wk hs) (109573 - d).toNat d 1 (by omega) h
      change d ≤ (nthS wk hs d 1).1 ∧ (nthS wk hs d 1).1 < d + _ ∧ workB wk hs (nthS wk hs d 1).1 = true ∧ _ at key
      obtain ⟨a1, a2, a3, -⟩ := key
      have hx : isDate (nthS wk hs d 1).1 = true := isDate_iff.2 ⟨by omega, by omega⟩
      refine ⟨?_, by simp [isWorkB, hv, hx, a3]⟩
      unfold nextS
      rw [if_pos hv, if_pos hx]
      exact nthS_hit wk hs _ 1 (by omega) a3 rfl
    · rw [if_neg hd] at h; simp at h
  · rw [if_neg hv] at h; simp at h
end Go.Proofs.YtmlkgfacenajnaaDoor.Cal
