/- Plain facts about the parser of numbers: the loop over the bytes as a function, and what it answers. No program stands here. -/
import Derived.Test.YtdnjfpmngnkcfaaGreatDoorStr
namespace Go.Proofs.YtdnjfpmngnkcfaaGreatDoor

def BB : Nat := 4611686018427387904
def B10 : Nat := 461168601842738790
/-- the loop: the bytes left, how far the point is, the number so far, whether it is too large -/
def run : List UInt8 → Int → Nat → Bool → Option (Nat × Bool)
  | [], _, v, g => some (v, g)
  | c :: r, k, v, g =>
    if k = 0 then (if c = 46 then run r (k - 1) v g else none)
    else if isDig c then (if g = true ∨ B10 < v then run r (k - 1) v true else run r (k - 1) (10 * v + dval c) (decide (BB < 10 * v + dval c))) else none
theorem run_point {r : List UInt8} {k : Int} {v : Nat} {g : Bool} (h : k = 0) : run (46 :: r) k v g = run r (k - 1) v g := by rw [run, if_pos h, if_pos rfl]
theorem run_nopoint {c : UInt8} {r : List UInt8} {k : Int} {v : Nat} {g : Bool} (h : k = 0) (hc : c ≠ 46) : run (c :: r) k v g = none := by rw [run, if_pos h, if_neg hc]
theorem run_nodig {c : UInt8} {r : List UInt8} {k : Int} {v : Nat} {g : Bool} (h : k ≠ 0) (hc : isDig c = false) : run (c :: r) k v g = none := by rw [run, if_neg h, hc]; rfl
theorem run_over {c : UInt8} {r : List UInt8} {k : Int} {v : Nat} {g : Bool} (h : k ≠ 0) (hc : isDig c = true) (ho : g = true ∨ B10 < v) : run (c :: r) k v g = run r (k - 1) v true := by rw [run, if_neg h, if_pos hc, if_pos ho]
theorem run_dig {c : UInt8} {r : List UInt8} {k : Int} {v : Nat} (h : k ≠ 0) (hc : isDig c = true) (ho : ¬ B10 < v) : run (c :: r) k v false = run r (k - 1) (10 * v + dval c) (decide (BB < 10 * v + dval c)) := by
  rw [run, if_neg h, if_pos hc, if_neg (by simp [ho])]

/-- the digits alone -/
def acc : List UInt8 → Nat → Bool → Nat × Bool
  | [], v, g => (v, g)
  | c :: r, v, g => if g = true ∨ B10 < v then acc r v true else acc r (10 * v + dval c) (decide (BB < 10 * v + dval c))
theorem acc_append (a b : List UInt8) (v : Nat) (g : Bool) : acc (a ++ b) v g = acc b (acc a v g).1 (acc a v g).2 := by
  induction a generalizing v g with
  | nil => rfl
  | cons c r ih =>
    rw [List.cons_append, acc, acc]
    split
    · exact ih _ _
    · exact ih _ _
/-- (v, g) stands for the number x -/
def Stands (v : Nat) (g : Bool) (x : Nat) : Prop := (g = false ∧ v = x ∧ x ≤ BB) ∨ (g = true ∧ BB < x)
theorem acc_stands (l : List UInt8) (v : Nat) (g : Bool) (x : Nat) (h : Stands v g x) : Stands (acc l v g).1 (acc l v g).2 (val l x) := by
  induction l generalizing v g x with
  | nil => exact h
  | cons c r ih =>
    rw [acc, val]
    split
    · rename_i ho
      refine ih _ _ _ (.inr ⟨rfl, ?_⟩)
      rcases h with ⟨h1, h2, h3⟩ | ⟨h1, h2⟩
      · rcases ho with ho | ho
        · rw [h1] at ho; cases ho
        · unfold B10 at ho; unfold BB; omega
      · omega
    · rename_i ho
      have hg : g = false := by cases g <;> simp_all
      rcases h with ⟨h1, h2, h3⟩ | ⟨h1, h2⟩
      · subst h2
        refine ih _ _ _ ?_
        by_cases hb : BB < 10 * v + dval c
        · exact .inr ⟨by simpa using hb, hb⟩
        · exact .inl ⟨by simpa using hb, rfl, by omega⟩
      · rw [hg] at h1; cases h1
theorem acc_zero (l : List UInt8) : Stands (acc l 0 false).1 (acc l 0 false).2 (val l 0) := acc_stands l 0 false 0 (.inl ⟨rfl, rfl, Nat.zero_le _⟩)

/-- without a point -/
theorem run_all (l : List UInt8) (k : Int) (v : Nat) (g : Bool) (h : k < 0 ∨ (l.length : Int) ≤ k) : run l k v g = if l.all isDig then some (acc l v g) else none := by
  induction l generalizing k v g with
  | nil => rfl
  | cons c r ih =>
    have hk : k ≠ 0 := by simp only [List.length_cons] at h; omega
    have h' : k - 1 < 0 ∨ (r.length : Int) ≤ k - 1 := by simp only [List.length_cons] at h; omega
    rw [List.all_cons]
    cases hc : isDig c
    · rw [run_nodig hk hc]; rfl
    · rw [Bool.true_and, acc]
      by_cases ho : g = true ∨ B10 < v
      · rw [run_over hk hc ho, if_pos ho, ih _ _ _ h']
      · have hg : g = false := by cases g <;> simp_all
        subst hg
        rw [run_dig hk hc (by simpa using ho), if_neg ho, ih _ _ _ h']
/-- with a point -/
theorem run_at (a : List UInt8) (c : UInt8) (b : List UInt8) (v : Nat) (g : Bool) :
    run (a ++ c :: b) (a.length : Int) v g = if a.all isDig && (c == 46 && b.all isDig) then some (acc (a ++ b) v g) else none := by
  induction a generalizing v g with
  | nil =>
    by_cases hc : c = 46
    · subst hc
      rw [List.nil_append, run_point (by rfl), run_all b _ v g (.inl (by simp))]
      simp
    · rw [List.nil_append, run_nopoint (by rfl) hc]
      simp [hc]
  | cons d r ih =>
    have hk : ((d :: r).length : Int) ≠ 0 := by simp only [List.length_cons]; omega
    have e : ((d :: r).length : Int) - 1 = r.length := by simp
    rw [List.cons_append, List.all_cons]
    cases hc : isDig d
    · rw [run_nodig hk hc]; rfl
    · rw [Bool.true_and, List.cons_append, acc]
      by_cases ho : g = true ∨ B10 < v
      · rw [run_over hk hc ho, if_pos ho, e, ih]
      · have hg : g = false := by cases g <;> simp_all
        subst hg
        rw [run_dig hk hc (by simpa using ho), if_neg ho, e, ih]

def negB (l : List UInt8) : Bool := l.head? == some 45
def bodyL (l : List UInt8) : List UInt8 := if negB l then l.tail else l
def wholeI (l : List UInt8) (p : Int) : Int := if 0 < p then l.length - (p + 1) else l.length
def signed (neg : Bool) (n : Nat) : Int := if neg then -(n : Int) else n
/-- the answer out of the loop's -/
def finR (neg : Bool) : Option (Nat × Bool) → Int × Int
  | none => (0, 2)
  | some (n, g) => if neg = true ∧ n = 0 ∧ g = false then (0, 2) else if g then (0, 3) else (signed neg n, 0)
def badL (l : List UInt8) (k : Int) : Bool := decide (k < 1) || (decide (1 < k) && l.head? == some 48)
def bodyP (l : List UInt8) (neg : Bool) (p : Int) : Int × Int := if badL l (wholeI l p) then (0, 2) else finR neg (run l (wholeI l p) 0 false)
/-- what the parser answers -/
def parP (l : List UInt8) (p : Int) : Int × Int := bodyP (bodyL l) (negB l) p
end Go.Proofs.YtdnjfpmngnkcfaaGreatDoor
