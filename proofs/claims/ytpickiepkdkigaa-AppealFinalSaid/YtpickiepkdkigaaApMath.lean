/- Plain facts about appeals: what the program and the reference compute. No program stands here. -/
import Derived.Test.YtpickiepkdkigaaCalMath
namespace Go.Proofs.Ytpickiepkdkigaa

structure Ap where
  id : Int
  fr : Int
  til : Int
  filed : Int
  dead : Int
  st : Int
  cents : Int
deriving DecidableEq

def monthsB (a b : Int) : Bool := decide (0 ≤ a) && (decide (a < b) && (decide (b ≤ 3600) && decide (b - a ≤ 120)))
theorem monthsB_iff {a b : Int} : monthsB a b = true ↔ 0 ≤ a ∧ a < b ∧ b ≤ 3600 ∧ b - a ≤ 120 := by simp [monthsB]
def lastDayS (wk : Int) (hs : List Int) (d n : Int) : Int := if (addS wk hs d n).2 = 0 then (addS wk hs d n).1 else 109572
def headB (id fr til d no : Int) : Bool := decide (0 ≤ id) && (isDate d && (isDate no && monthsB fr til))
def confB (wk : Int) (hs : List Int) (days : Int) : Bool := vcalB wk hs && (decide (0 ≤ days) && decide (days ≤ 365))
def lateB (wk : Int) (hs : List Int) (days d no : Int) : Bool := decide (lastDayS wk hs no days < d)
def fileS (wk : Int) (hs : List Int) (days id fr til d no : Int) : Ap × Int :=
  if headB id fr til d no then
    (if d < no then (⟨0, 0, 0, 0, 0, 0, 0⟩, 14)
     else if confB wk hs days then
      (if lateB wk hs days d no then (⟨id, fr, til, d, d, 6, 0⟩, 0) else (⟨id, fr, til, d, lastDayS wk hs d 60, 1, 0⟩, 0))
     else (⟨0, 0, 0, 0, 0, 0, 0⟩, 1))
  else (⟨0, 0, 0, 0, 0, 0, 0⟩, 3)

def permB (f t : Int) : Bool := (f == 1 && (t == 2 || t == 4 || t == 5)) || (f == 2 && (t == 3 || t == 4 || t == 5))
def centsB (st c : Int) : Bool := decide (0 ≤ c) && (decide (c ≤ 1000000000000000) && (c == 0 || st == 3))
def tardyB (dead st d : Int) : Bool := decide (dead < d) && (st == 2 || st == 3)
def transS (a : Ap) (st c d : Int) : Ap × Int :=
  if permB a.st st then
    (if d < a.filed then (⟨0, 0, 0, 0, 0, 0, 0⟩, 9)
     else if tardyB a.dead st d then (⟨0, 0, 0, 0, 0, 0, 0⟩, 14)
     else if centsB st c then (⟨a.id, a.fr, a.til, a.filed, a.dead, st, c⟩, 0)
     else (⟨0, 0, 0, 0, 0, 0, 0⟩, 3))
  else (⟨0, 0, 0, 0, 0, 0, 0⟩, 13)
def validA (a : Ap) : Bool :=
  (decide (0 ≤ a.id) && monthsB a.fr a.til) && ((decide (0 ≤ a.filed) && (decide (a.filed ≤ a.dead) && decide (a.dead ≤ 109572))) && ((decide (1 ≤ a.st) && decide (a.st ≤ 6)) && (decide (0 ≤ a.cents) && (decide (a.cents ≤ 1000000000000000) && (a.cents == 0 || a.st == 3)))))
def finalA (st : Int) : Bool := st == 3 || (st == 4 || (st == 5 || st == 6))

theorem nthF_in (p : Int → Bool) : ∀ (f : Nat) (d n : Int), (nthF p f d n).2 = 0 → d ≤ (nthF p f d n).1 ∧ (nthF p f d n).1 < d + f := by
  intro f
  induction f with
  | zero => intro d n h; simp [nthF] at h
  | succ f ih =>
    intro d n h
    rw [nthF] at h ⊢
    split at h
    · rename_i hp
      rw [if_pos hp]
      split at h
      · rename_i h1; rw [if_pos h1]; simp only; omega
      · rename_i h1; rw [if_neg h1]; have := ih _ _ h; omega
    · rename_i hp
      rw [if_neg hp]; have := ih _ _ h; omega
theorem nthS_in (wk : Int) (hs : List Int) (d n : Int) (h : (nthS wk hs d n).2 = 0) : d ≤ (nthS wk hs d n).1 ∧ (nthS wk hs d n).1 ≤ 109572 := by
  have := nthF_in (workB wk hs) _ _ _ h
  change d ≤ (nthS wk hs d n).1 ∧ (nthS wk hs d n).1 < d + _ at this
  rcases Int.lt_or_le 109572 d with hd | hd
  · rw [nthS_end wk hs d n hd] at h; cases h
  · omega
/-- the last day is not before the day from which one counts, and a date -/
theorem lastDayS_in (wk : Int) (hs : List Int) (d n : Int) (hd : isDate d = true) : d ≤ lastDayS wk hs d n ∧ lastDayS wk hs d n ≤ 109572 := by
  have hdd := isDate_iff.1 hd
  unfold lastDayS
  split
  · rename_i h
    unfold addS at h ⊢
    split at h
    · rename_i hv
      rw [if_pos hv]
      split at h
      · rename_i hg
        rw [if_pos hg]
        split at h
        · rename_i h0
          rw [if_pos h0]
          unfold nextS at h ⊢
          rw [if_pos hv, if_pos hd] at h ⊢
          exact nthS_in wk hs d 1 h
        · rename_i h0
          rw [if_neg h0]
          have := nthS_in wk hs (d + 1) n h
          omega
      · simp at h
    · simp at h
  · omega

/-- what the laws AppealFinal and AppealFresh lean on -/
theorem trans_ok {a : Ap} {st c d : Int} (hv : validA a = true) (h : (transS a st c d).2 = 0) :
    finalA a.st = false ∧ validA (transS a st c d).1 = true ∧ (transS a st c d).1 = ⟨a.id, a.fr, a.til, a.filed, a.dead, st, c⟩ ∧ permB a.st st = true := by
  unfold transS at h ⊢
  split at h
  · rename_i hp
    rw [if_pos hp]
    split at h
    · simp at h
    · rename_i h1
      rw [if_neg h1]
      split at h
      · simp at h
      · rename_i h2
        rw [if_neg h2]
        split at h
        · rename_i h3
          rw [if_pos h3]
          refine ⟨?_, ?_, rfl, hp⟩
          · simp only [permB, Bool.or_eq_true, Bool.and_eq_true, beq_iff_eq] at hp
            rcases hp with ⟨hs, -⟩ | ⟨hs, -⟩ <;> rw [hs] <;> rfl
          · simp only [validA, Bool.and_eq_true, decide_eq_true_eq, Bool.or_eq_true, beq_iff_eq] at hv ⊢
            simp only [centsB, Bool.and_eq_true, decide_eq_true_eq, Bool.or_eq_true, beq_iff_eq] at h3
            refine ⟨hv.1, hv.2.1, ?_, h3⟩
            simp only [permB, Bool.or_eq_true, Bool.and_eq_true, beq_iff_eq] at hp
            omega
        · simp at h
  · simp at h
theorem trans_code {a : Ap} {st c d : Int} (h : (transS a st c d).2 ≠ 0) : (transS a st c d).1 = ⟨0, 0, 0, 0, 0, 0, 0⟩ := by
  revert h
  unfold transS
  repeat' split
  all_goals (intro h; first | rfl | exact absurd rfl h)
theorem file_ok {wk : Int} {hs : List Int} {days id fr til d no : Int} (h : (fileS wk hs days id fr til d no).2 = 0) :
    validA (fileS wk hs days id fr til d no).1 = true ∧ (fileS wk hs days id fr til d no).1.cents = 0 ∧ (fileS wk hs days id fr til d no).1.filed = d ∧ d ≤ (fileS wk hs days id fr til d no).1.dead ∧
      ((fileS wk hs days id fr til d no).1.st = 1 ∨ (fileS wk hs days id fr til d no).1.st = 6) := by
  unfold fileS at h ⊢
  split at h
  · rename_i hh
    rw [if_pos hh]
    split at h
    · simp at h
    · rename_i h1
      rw [if_neg h1]
      split at h
      · rename_i h2
        rw [if_pos h2]
        simp only [headB, Bool.and_eq_true, decide_eq_true_eq] at hh
        have hd := isDate_iff.1 hh.2.1
        have hl := lastDayS_in wk hs d 60 hh.2.1
        split
        · refine ⟨?_, rfl, rfl, by simp, .inr rfl⟩
          simp [validA, hh.1, hh.2.2.2, hd]
        · refine ⟨?_, rfl, rfl, hl.1, .inl rfl⟩
          simp [validA, hh.1, hh.2.2.2, hd, hl]
      · simp at h
  · simp at h
theorem file_code {wk : Int} {hs : List Int} {days id fr til d no : Int} (h : (fileS wk hs days id fr til d no).2 ≠ 0) : (fileS wk hs days id fr til d no).1 = ⟨0, 0, 0, 0, 0, 0, 0⟩ := by
  revert h
  unfold fileS
  repeat' split
  all_goals (intro h; first | rfl | exact absurd rfl h)
end Go.Proofs.Ytpickiepkdkigaa
