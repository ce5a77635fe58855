/- The tokens of a text, as a function of its bytes. No program stands here. -/
import Derived.Test.YtmlkgfacenajnaaDoorStr
import Derived.Test.YtmlkgfacenajnaaDoorDateF
import Derived.Test.YtmlkgfacenajnaaDoorParseEq
namespace Go.Proofs.YtmlkgfacenajnaaDoor

def lowB (c : UInt8) : Bool := decide (97 ≤ c.toNat) && decide (c.toNat ≤ 122)
def wordB (c : UInt8) : Bool := lowB c || (isDig c || decide (c.toNat = 95))
/-- what must not follow a number immediately -/
def gluedB (c : UInt8) : Bool := wordB c || (decide (65 ≤ c.toNat) && decide (c.toNat ≤ 90) || decide (c.toNat = 46))
/-- the leading bytes for which p holds: how many -/
def lead_of (p : UInt8 → Bool) : List UInt8 → Nat
  | [] => 0
  | c :: r => if p c then lead_of p r + 1 else 0
theorem lead_of_le (p : UInt8 → Bool) (l : List UInt8) : lead_of p l ≤ l.length := by
  induction l with
  | nil => exact Nat.le_refl _
  | cons c r ih =>
    rw [lead_of]
    split
    · rw [List.length_cons]; omega
    · exact Nat.zero_le _
/-- at the first byte for which p does not hold the count ends -/
theorem lead_of_at (p : UInt8 → Bool) (l : List UInt8) (k : Nat) (h : ∀ j, j < k → ∃ c, l[j]? = some c ∧ p c = true) (he : l[k]? = none ∨ ∃ c, l[k]? = some c ∧ p c = false) : lead_of p l = k := by
  induction k generalizing l with
  | zero =>
    cases l with
    | nil => rfl
    | cons c r =>
      rcases he with he | ⟨d, he, hd⟩
      · cases he
      · have : c = d := Option.some.inj he
        subst this
        rw [lead_of, hd]; rfl
  | succ k ih =>
    cases l with
    | nil => obtain ⟨c, hc, _⟩ := h 0 (by omega); cases hc
    | cons c r =>
      obtain ⟨d, hd, hp⟩ := h 0 (by omega)
      have : c = d := Option.some.inj hd
      subst this
      rw [lead_of, if_pos hp, ih r (fun j hj => by obtain ⟨x, hx, hpx⟩ := h (j + 1) (by omega); exact ⟨x, by simpa using hx, hpx⟩) (by simpa using he)]
theorem lead_of_in {p : UInt8 → Bool} {l : List UInt8} {j : Nat} (h : j < lead_of p l) : ∃ c, l[j]? = some c ∧ p c = true := by
  induction l generalizing j with
  | nil => exact absurd h (by simp [lead_of])
  | cons c r ih =>
    rw [lead_of] at h
    by_cases hp : p c = true
    · rw [if_pos hp] at h
      cases j with
      | zero => exact ⟨c, rfl, hp⟩
      | succ j =>
        obtain ⟨x, hx, hpx⟩ := ih (j := j) (by omega)
        exact ⟨x, by simpa using hx, hpx⟩
    · rw [if_neg hp] at h; omega
theorem lead_of_end (p : UInt8 → Bool) (l : List UInt8) : l[lead_of p l]? = none ∨ ∃ c, l[lead_of p l]? = some c ∧ p c = false := by
  induction l with
  | nil => exact .inl rfl
  | cons c r ih =>
    rw [lead_of]
    by_cases hp : p c = true
    · rw [if_pos hp]; simpa using ih
    · rw [if_neg hp]; exact .inr ⟨c, rfl, by simpa using hp⟩
theorem lead_of_all {p : UInt8 → Bool} {l : List UInt8} : (l.take (lead_of p l)).all p = true := by
  induction l with
  | nil => rfl
  | cons c r ih =>
    rw [lead_of]
    by_cases hp : p c = true
    · rw [if_pos hp, List.take_succ_cons, List.all_cons, hp, ih]; rfl
    · rw [if_neg hp]; rfl
/-- behind bytes that all satisfy p, what does not begin with one -/
theorem lead_of_app {p : UInt8 → Bool} {a b : List UInt8} (ha : a.all p = true) (hb : b.head? = none ∨ ∃ c, b.head? = some c ∧ p c = false) : lead_of p (a ++ b) = a.length := by
  induction a with
  | nil =>
    cases b with
    | nil => rfl
    | cons c r =>
      rcases hb with hb | ⟨d, hd, hp⟩
      · cases hb
      · have : c = d := Option.some.inj hd
        subst this
        rw [List.nil_append, lead_of, hp]; rfl
  | cons c r ih =>
    simp only [List.all_cons, Bool.and_eq_true] at ha
    rw [List.cons_append, lead_of, if_pos ha.1, ih ha.2, List.length_cons]
theorem lead_of_pos {p : UInt8 → Bool} {c : UInt8} {r : List UInt8} (h : p c = true) : 1 ≤ lead_of p (c :: r) := by
  rw [lead_of, if_pos h]; omega

/-- the first byte behind blanks and comments: how many bytes to pass (inside a comment or not) -/
def skipL : Bool → List UInt8 → Nat
  | _, [] => 0
  | true, c :: r => if c.toNat = 10 then 0 else skipL true r + 1
  | false, c :: r => if c.toNat = 35 then skipL true r + 1 else if c.toNat = 32 ∨ c.toNat = 9 then skipL false r + 1 else 0
theorem skipL_le (b : Bool) (l : List UInt8) : skipL b l ≤ l.length := by
  induction l generalizing b with
  | nil => cases b <;> exact Nat.le_refl _
  | cons c r ih =>
    have h1 := ih true
    have h2 := ih false
    cases b
    · rw [skipL]; split
      · rw [List.length_cons]; omega
      · split
        · rw [List.length_cons]; omega
        · exact Nat.zero_le _
    · rw [skipL]; split
      · exact Nat.zero_le _
      · rw [List.length_cons]; omega

/-- what is read at the head of a text: the code, the kind, the text, the number, the bytes taken -/
structure SR where
  code : Int
  k : Int
  t : List UInt8
  n : Int
  len : Nat
def SR.err (c : Int) : SR := ⟨c, 0, [], 0, 0⟩
def lxName (l : List UInt8) : SR := if 16 < lead_of wordB l then .err 4 else ⟨0, 1, l.take (lead_of wordB l), 0, lead_of wordB l⟩
/-- do the first ten bytes have the form of a date -/
def datedB (l : List UInt8) : Bool := decide (10 ≤ l.length) && (digB (l.take 4) && (l[4]? == some 45 && (digB ((l.drop 5).take 2) && (l[7]? == some 45 && digB ((l.drop 8).take 2)))))
def pointB (l : List UInt8) (q : Nat) : Bool := l[lead_of isDig l]? == some 46 && lead_of isDig (l.drop (lead_of isDig l + 1)) == q
def rateB (l : List UInt8) : Bool := pointB l 4 && l[lead_of isDig l + 5]? == some 37
/-- kind and length of a number -/
def lxKL (l : List UInt8) : Int × Nat :=
  if datedB l then (5, 10) else if pointB l 2 then (3, lead_of isDig l + 3) else if rateB l then (4, lead_of isDig l + 6) else (2, lead_of isDig l)
def zeroB (l : List UInt8) : Bool := !datedB l && (decide (1 < lead_of isDig l) && l[0]? == some 48)
def gluedAt : Option UInt8 → Bool
  | some c => gluedB c
  | none => false
def mostK (k : Int) : Int := if k = 3 then 1000000000000000 else if k = 4 then 1000000000 else 1000000000000
def digsN (t : List UInt8) : Nat := val (t.filter isDig) 0
/-- the number of a token of a kind, and the code -/
def lxVal (k : Int) (t : List UInt8) : Int × Int :=
  if k = 5 then (if (dparS (bs t)).2 = 0 then dparS (bs t) else (0, 3)) else if mostK k < digsN t then (0, 3) else (digsN t, 0)
def lxNum (l : List UInt8) : SR :=
  if zeroB l then .err 2 else if gluedAt l[(lxKL l).2]? then .err 2 else
    if (lxVal (lxKL l).1 (l.take (lxKL l).2)).2 = 0 then ⟨0, (lxKL l).1, l.take (lxKL l).2, (lxVal (lxKL l).1 (l.take (lxKL l).2)).1, (lxKL l).2⟩ else .err 3
def inStr (c : UInt8) : Bool := decide (c.toNat ≠ 34) && decide (c.toNat ≠ 10)
def printB (c : UInt8) : Bool := decide (32 ≤ c.toNat) && decide (c.toNat ≤ 126)
def lxStr (l : List UInt8) : SR :=
  if (l.drop 1)[lead_of inStr (l.drop 1)]? = some 34 then
    (if ((l.drop 1).take (lead_of inStr (l.drop 1))).all printB then
      (if 64 < lead_of inStr (l.drop 1) then .err 4 else ⟨0, 6, (l.drop 1).take (lead_of inStr (l.drop 1)), 0, lead_of inStr (l.drop 1) + 2⟩)
      else .err 2)
    else .err 5
def sym1 (c : UInt8) : Bool := decide (c.toNat = 60) || (decide (c.toNat = 61) || (decide (c.toNat = 40) || (decide (c.toNat = 41) || (decide (c.toNat = 44) || (decide (c.toNat = 58) || (decide (c.toNat = 43) || (decide (c.toNat = 45) || decide (c.toNat = 42))))))))
def sym2 (c : UInt8) : Bool := decide (c.toNat = 60) || (decide (c.toNat = 61) || decide (c.toNat = 33))
def lxSym : List UInt8 → SR
  | [] => .err 2
  | c :: r => if r.head? = some 61 ∧ sym2 c = true then ⟨0, 7, [c, 61], 0, 2⟩ else if sym1 c then ⟨0, 7, [c], 0, 1⟩ else .err 2
def lxScan : List UInt8 → SR
  | [] => .err 2
  | c :: r => if c.toNat = 10 then ⟨0, 8, [10], 0, 1⟩ else if lowB c then lxName (c :: r) else if isDig c then lxNum (c :: r) else if c.toNat = 34 then lxStr (c :: r) else lxSym (c :: r)

/-- a token: kind, text, number, offset -/
structure Tok where
  k : Int
  t : List UInt8
  n : Int
  o : Int
/-- the tokens of a text: a bound on their number, the bytes left, their offset -/
def lexF : Nat → List UInt8 → Nat → List Tok × Int × Int
  | 0, _, _ => ([], 0, 0)
  | f + 1, l, o =>
    if l.drop (skipL false l) = [] then ([], 0, 0)
    else if (lxScan (l.drop (skipL false l))).code = 0 then
      (if (lexF f ((l.drop (skipL false l)).drop (lxScan (l.drop (skipL false l))).len) (o + skipL false l + (lxScan (l.drop (skipL false l))).len)).2.2 = 0
       then (⟨(lxScan (l.drop (skipL false l))).k, (lxScan (l.drop (skipL false l))).t, (lxScan (l.drop (skipL false l))).n, ((o + skipL false l : Nat) : Int)⟩ :: (lexF f ((l.drop (skipL false l)).drop (lxScan (l.drop (skipL false l))).len) (o + skipL false l + (lxScan (l.drop (skipL false l))).len)).1, 0, 0)
       else lexF f ((l.drop (skipL false l)).drop (lxScan (l.drop (skipL false l))).len) (o + skipL false l + (lxScan (l.drop (skipL false l))).len))
    else ([], ((o + skipL false l : Nat) : Int), (lxScan (l.drop (skipL false l))).code)
def tokR (l : List UInt8) : List Tok × Int × Int := if 65536 < l.length then ([], 0, 4) else lexF (l.length + 1) l 0
/-- what comes of tokens gathered and of the rest -/
def comb (a : List Tok) (p : List Tok × Int × Int) : List Tok × Int × Int := if p.2.2 = 0 then (a ++ p.1, 0, 0) else p
theorem comb_nil (p : List Tok × Int × Int) (h : p.2.2 = 0 → p.2.1 = 0) : comb [] p = p := by
  unfold comb
  split
  · rename_i h0
    obtain ⟨a, b, c⟩ := p
    simp only at h0 h
    rw [h h0, h0]; rfl
  · rfl
theorem lexF_ok (f : Nat) : ∀ l o, (lexF f l o).2.2 = 0 → (lexF f l o).2.1 = 0 := by
  induction f with
  | zero => intro l o _; rfl
  | succ f ih =>
    intro l o h
    rw [lexF] at h ⊢
    split at h
    · rename_i h1
      rw [if_pos h1]
    · rename_i h1
      rw [if_neg h1]
      split at h
      · rename_i h2
        rw [if_pos h2]
        split at h
        · rename_i h3; rw [if_pos h3]
        · rename_i h3; exact absurd h h3
      · rename_i h2; exact absurd h h2
theorem lexF_end (f : Nat) (l : List UInt8) (o : Nat) (a : List Tok) (h : l.drop (skipL false l) = []) : comb a (lexF f l o) = (a, 0, 0) := by
  cases f with
  | zero => simp [lexF, comb]
  | succ f => rw [lexF, if_pos h]; simp [comb]
theorem lexF_bad (f : Nat) (l : List UInt8) (o j : Nat) (a : List Tok) (hj : skipL false l = j) (h : l.drop j ≠ []) (hc : (lxScan (l.drop j)).code ≠ 0) : comb a (lexF (f + 1) l o) = ([], ((o + j : Nat) : Int), (lxScan (l.drop j)).code) := by
  subst hj
  rw [lexF, if_neg h, if_neg hc, comb, if_neg hc]
theorem lexF_next (f : Nat) (l : List UInt8) (o j : Nat) (a : List Tok) (r : SR) (hj : skipL false l = j) (h : l.drop j ≠ []) (hr : lxScan (l.drop j) = r) (hc : r.code = 0) :
    comb a (lexF (f + 1) l o) = comb (a ++ [⟨r.k, r.t, r.n, ((o + j : Nat) : Int)⟩]) (lexF f ((l.drop j).drop r.len) (o + j + r.len)) := by
  subst hj; subst hr
  rw [lexF, if_neg h, if_pos hc]
  generalize lexF f _ _ = p
  unfold comb
  by_cases hp : p.2.2 = 0
  · rw [if_pos hp, if_pos hp, if_pos rfl]; simp
  · rw [if_neg hp, if_neg hp, if_neg hp]

theorem digB_lead {l : List UInt8} (h : digB l = true) : lead_of isDig l = l.length := by
  have := lead_of_app (p := isDig) (a := l) (b := []) h (.inl rfl)
  simpa using this
/-- a token that was read takes a byte at least, and no more than there are -/
theorem lxName_len {l : List UInt8} (h : (lxName l).code = 0) : (lxName l).len = lead_of wordB l ∧ lead_of wordB l ≤ 16 := by
  unfold lxName at h ⊢
  split at h
  · cases h
  · rename_i h16; rw [if_neg h16]; exact ⟨rfl, by omega⟩
theorem lxNum_len {l : List UInt8} (h : (lxNum l).code = 0) : lxNum l = ⟨0, (lxKL l).1, l.take (lxKL l).2, (lxVal (lxKL l).1 (l.take (lxKL l).2)).1, (lxKL l).2⟩ ∧ zeroB l = false ∧ gluedAt l[(lxKL l).2]? = false ∧ (lxVal (lxKL l).1 (l.take (lxKL l).2)).2 = 0 := by
  unfold lxNum at h ⊢
  cases hz : zeroB l
  · cases hg : gluedAt l[(lxKL l).2]?
    · rw [hz, hg] at h
      by_cases hv : (lxVal (lxKL l).1 (l.take (lxKL l).2)).2 = 0
      · exact ⟨by simp [hv], rfl, rfl, hv⟩
      · simp [hv, SR.err] at h
    · rw [hz, hg] at h; cases h
  · rw [hz] at h; cases h
theorem get_lt {l : List UInt8} {i : Nat} {c : UInt8} (h : l[i]? = some c) : i < l.length := (List.getElem?_eq_some_iff.1 h).1
theorem pointB_iff {l : List UInt8} {q : Nat} : pointB l q = true ↔ l[lead_of isDig l]? = some 46 ∧ lead_of isDig (l.drop (lead_of isDig l + 1)) = q := by
  simp [pointB]
theorem lxKL_le {l : List UInt8} : (lxKL l).2 ≤ l.length := by
  unfold lxKL
  split
  · rename_i h
    simp only [datedB, Bool.and_eq_true, decide_eq_true_eq] at h
    exact h.1
  · split
    · rename_i h
      have h' := pointB_iff.1 h
      have := lead_of_le isDig (l.drop (lead_of isDig l + 1))
      rw [List.length_drop] at this
      have := get_lt h'.1
      simp only; omega
    · split
      · rename_i h
        simp only [rateB, Bool.and_eq_true, beq_iff_eq] at h
        have := get_lt h.2
        simp only; omega
      · exact lead_of_le _ _
theorem lxKL_pos {c : UInt8} {r : List UInt8} (h : isDig c = true) : 1 ≤ (lxKL (c :: r)).2 := by
  have := lead_of_pos (p := isDig) (r := r) h
  unfold lxKL
  split
  · decide
  · split
    · simp only; omega
    · split <;> simp only <;> omega
theorem lxScan_len {l : List UInt8} (h : (lxScan l).code = 0) : 1 ≤ (lxScan l).len ∧ (lxScan l).len ≤ l.length := by
  cases l with
  | nil => cases h
  | cons c r =>
    rw [lxScan] at h ⊢
    split at h
    · rename_i h1; rw [if_pos h1]; exact ⟨Nat.le_refl _, by simp⟩
    · rename_i h1
      rw [if_neg h1]
      split at h
      · rename_i h2
        rw [if_pos h2]
        obtain ⟨e, _⟩ := lxName_len h
        rw [e]
        exact ⟨lead_of_pos (by simp [wordB, h2]), lead_of_le _ _⟩
      · rename_i h2
        rw [if_neg h2]
        split at h
        · rename_i h3
          rw [if_pos h3]
          obtain ⟨e, _⟩ := lxNum_len h
          rw [e]
          exact ⟨lxKL_pos h3, lxKL_le⟩
        · rename_i h3
          rw [if_neg h3]
          split at h
          · rename_i h4
            rw [if_pos h4]
            unfold lxStr at h ⊢
            split at h
            · rename_i h5
              rw [if_pos h5]
              split at h
              · rename_i h6
                rw [if_pos h6]
                split at h
                · cases h
                · rename_i h7
                  rw [if_neg h7]
                  have := get_lt h5
                  simp only [List.length_cons, List.drop_one, List.tail_cons] at this ⊢
                  omega
              · cases h
            · cases h
          · rename_i h4
            rw [if_neg h4]
            rw [lxSym] at h ⊢
            split at h
            · rename_i h5
              rw [if_pos h5]
              cases r with
              | nil => cases h5.1
              | cons d r => simp
            · rename_i h5
              rw [if_neg h5]
              split at h
              · rename_i h6; rw [if_pos h6]; simp
              · cases h
end Go.Proofs.YtmlkgfacenajnaaDoor
