/- The tokens of a text, as a function of its bytes. No program stands here. -/
import Derived.Test.YtjeifmjcgemlgaaGreatDoorRgA
import Derived.Test.YtjeifmjcgemlgaaGreatDoorRgD
import Derived.Test.YtjeifmjcgemlgaaGreatDoorRgE
import Derived.Test.YtjeifmjcgemlgaaGreatDoorShelf
import Derived.Laws.Runes
import Derived.Deep.AppendLies
import Derived.WalkMore
import Derived.ScopeJumps
import Derived.Deep.LoopGhost
import Derived.Lib.MapLaws
import Derived.Deep.DeepCutAuto
namespace Go.Proofs.YtjeifmjcgemlgaaGreatDoor

def lowB (c : UInt8) : Bool := decide (97 ≤ c.toNat) && decide (c.toNat ≤ 122)
def wordB (c : UInt8) : Bool := lowB c || (isDig c || decide (c.toNat = 95))
/-- what must not follow a number immediately -/
def gluedB (c : UInt8) : Bool := wordB c || (decide (65 ≤ c.toNat) && decide (c.toNat ≤ 90) || decide (c.toNat = 46))
/-- the leading bytes for which p holds: how many -/
def lead_of (p : UInt8 → Bool) : List UInt8 → Nat
  | [] => 0
  | c :: r => if p c then lead_of p r + 1 else 0
theorem lead_of_le (p : UInt8 → Bool) (l : List UInt8) : lead_of p l ≤ l.length := by
  induction l with
  | nil => exact Nat.le_refl _
  | cons c r ih =>
    rw [lead_of]
    split
    · rw [List.length_cons]; omega
    · exact Nat.zero_le _
/-- at the first byte for which p does not hold the count ends -/
theorem lead_of_at (p : UInt8 → Bool) (l : List UInt8) (k : Nat) (h : ∀ j, j < k → ∃ c, l[j]? = some c ∧ p c = true) (he : l[k]? = none ∨ ∃ c, l[k]? = some c ∧ p c = false) : lead_of p l = k := by
  induction k generalizing l with
  | zero =>
    cases l with
    | nil => rfl
    | cons c r =>
      rcases he with he | ⟨d, he, hd⟩
      · cases he
      · have : c = d := Option.some.inj he
        subst this
        rw [lead_of, hd]; rfl
  | succ k ih =>
    cases l with
    | nil => obtain ⟨c, hc, _⟩ := h 0 (by omega); cases hc
    | cons c r =>
      obtain ⟨d, hd, hp⟩ := h 0 (by omega)
      have : c = d := Option.some.inj hd
      subst this
      rw [lead_of, if_pos hp, ih r (fun j hj => by obtain ⟨x, hx, hpx⟩ := h (j + 1) (by omega); exact ⟨x, by simpa using hx, hpx⟩) (by simpa using he)]
theorem lead_of_in {p : UInt8 → Bool} {l : List UInt8} {j : Nat} (h : j < lead_of p l) : ∃ c, l[j]? = some c ∧ p c = true := by
  induction l generalizing j with
  | nil => exact absurd h (by simp [lead_of])
  | cons c r ih =>
    rw [lead_of] at h
    by_cases hp : p c = true
    · rw [if_pos hp] at h
      cases j with
      | zero => exact ⟨c, rfl, hp⟩
      | succ j =>
        obtain ⟨x, hx, hpx⟩ := ih (j := j) (by omega)
        exact ⟨x, by simpa using hx, hpx⟩
    · rw [if_neg hp] at h; omega
theorem lead_of_end (p : UInt8 → Bool) (l : List UInt8) : l[lead_of p l]? = none ∨ ∃ c, l[lead_of p l]? = some c ∧ p c = false := by
  induction l with
  | nil => exact .inl rfl
  | cons c r ih =>
    rw [lead_of]
    by_cases hp : p c = true
    · rw [if_pos hp]; simpa using ih
    · rw [if_neg hp]; exact .inr ⟨c, rfl, by simpa using hp⟩
theorem lead_of_all {p : UInt8 → Bool} {l : List UInt8} : (l.take (lead_of p l)).all p = true := by
  induction l with
  | nil => rfl
  | cons c r ih =>
    rw [lead_of]
    by_cases hp : p c = true
    · rw [if_pos hp, List.take_succ_cons, List.all_cons, hp, ih]; rfl
    · rw [if_neg hp]; rfl
/-- behind bytes that all satisfy p, what does not begin with one -/
theorem lead_of_app {p : UInt8 → Bool} {a b : List UInt8} (ha : a.all p = true) (hb : b.head? = none ∨ ∃ c, b.head? = some c ∧ p c = false) : lead_of p (a ++ b) = a.length := by
  induction a with
  | nil =>
    cases b with
    | nil => rfl
    | cons c r =>
      rcases hb with hb | ⟨d, hd, hp⟩
      · cases hb
      · have : c = d := Option.some.inj hd
        subst this
        rw [List.nil_append, lead_of, hp]; rfl
  | cons c r ih =>
    simp only [List.all_cons, Bool.and_eq_true] at ha
    rw [List.cons_append, lead_of, if_pos ha.1, ih ha.2, List.length_cons]
theorem lead_of_pos {p : UInt8 → Bool} {c : UInt8} {r : List UInt8} (h : p c = true) : 1 ≤ lead_of p (c :: r) := by
  rw [lead_of, if_pos h]; omega

/-- the first byte behind blanks and comments: how many bytes to pass (inside a comment or not) -/
def skipL : Bool → List UInt8 → Nat
  | _, [] => 0
  | true, c :: r => if c.toNat = 10 then 0 else skipL true r + 1
  | false, c :: r => if c.toNat = 35 then skipL true r + 1 else if c.toNat = 32 ∨ c.toNat = 9 then skipL false r + 1 else 0
theorem skipL_le (b : Bool) (l : List UInt8) : skipL b l ≤ l.length := by
  induction l generalizing b with
  | nil => cases b <;> exact Nat.le_refl _
  | cons c r ih =>
    have h1 := ih true
    have h2 := ih false
    cases b
    · rw [skipL]; split
      · rw [List.length_cons]; omega
      · split
        · rw [List.length_cons]; omega
        · exact Nat.zero_le _
    · rw [skipL]; split
      · exact Nat.zero_le _
      · rw [List.length_cons]; omega

/-- what is read at the head of a text: the code, the kind, the text, the number, the bytes taken -/
structure SR where
  code : Int
  k : Int
  t : List UInt8
  n : Int
  len : Nat
def SR.err (c : Int) : SR := ⟨c, 0, [], 0, 0⟩
def lxName (l : List UInt8) : SR := if 16 < lead_of wordB l then .err 4 else ⟨0, 1, l.take (lead_of wordB l), 0, lead_of wordB l⟩
/-- do the first ten bytes have the form of a date -/
def datedB (l : List UInt8) : Bool := decide (10 ≤ l.length) && (digB (l.take 4) && (l[4]? == some 45 && (digB ((l.drop 5).take 2) && (l[7]? == some 45 && digB ((l.drop 8).take 2)))))
def pointB (l : List UInt8) (q : Nat) : Bool := l[lead_of isDig l]? == some 46 && lead_of isDig (l.drop (lead_of isDig l + 1)) == q
def rateB (l : List UInt8) : Bool := pointB l 4 && l[lead_of isDig l + 5]? == some 37
/-- kind and length of a number -/
def lxKL (l : List UInt8) : Int × Nat :=
  if datedB l then (5, 10) else if pointB l 2 then (3, lead_of isDig l + 3) else if rateB l then (4, lead_of isDig l + 6) else (2, lead_of isDig l)
def zeroB (l : List UInt8) : Bool := !datedB l && (decide (1 < lead_of isDig l) && l[0]? == some 48)
def gluedAt : Option UInt8 → Bool
  | some c => gluedB c
  | none => false
def mostK (k : Int) : Int := if k = 3 then 1000000000000000 else if k = 4 then 1000000000 else 1000000000000
def digsN (t : List UInt8) : Nat := val (t.filter isDig) 0
/-- the number of a token of a kind, and the code -/
def lxVal (k : Int) (t : List UInt8) : Int × Int :=
  if k = 5 then (if (dparS (bs t)).2 = 0 then dparS (bs t) else (0, 3)) else if mostK k < digsN t then (0, 3) else (digsN t, 0)
def lxNum (l : List UInt8) : SR :=
  if zeroB l then .err 2 else if gluedAt l[(lxKL l).2]? then .err 2 else
    if (lxVal (lxKL l).1 (l.take (lxKL l).2)).2 = 0 then ⟨0, (lxKL l).1, l.take (lxKL l).2, (lxVal (lxKL l).1 (l.take (lxKL l).2)).1, (lxKL l).2⟩ else .err 3
def inStr (c : UInt8) : Bool := decide (c.toNat ≠ 34) && decide (c.toNat ≠ 10)
def printB (c : UInt8) : Bool := decide (32 ≤ c.toNat) && decide (c.toNat ≤ 126)
def lxStr (l : List UInt8) : SR :=
  if (l.drop 1)[lead_of inStr (l.drop 1)]? = some 34 then
    (if ((l.drop 1).take (lead_of inStr (l.drop 1))).all printB then
      (if 64 < lead_of inStr (l.drop 1) then .err 4 else ⟨0, 6, (l.drop 1).take (lead_of inStr (l.drop 1)), 0, lead_of inStr (l.drop 1) + 2⟩)
      else .err 2)
    else .err 5
def sym1 (c : UInt8) : Bool := decide (c.toNat = 60) || (decide (c.toNat = 61) || (decide (c.toNat = 40) || (decide (c.toNat = 41) || (decide (c.toNat = 44) || (decide (c.toNat = 58) || (decide (c.toNat = 43) || (decide (c.toNat = 45) || decide (c.toNat = 42))))))))
def sym2 (c : UInt8) : Bool := decide (c.toNat = 60) || (decide (c.toNat = 61) || decide (c.toNat = 33))
def lxSym : List UInt8 → SR
  | [] => .err 2
  | c :: r => if r.head? = some 61 ∧ sym2 c = true then ⟨0, 7, [c, 61], 0, 2⟩ else if sym1 c then ⟨0, 7, [c], 0, 1⟩ else .err 2
def lxScan : List UInt8 → SR
  | [] => .err 2
  | c :: r => if c.toNat = 10 then ⟨0, 8, [10], 0, 1⟩ else if lowB c then lxName (c :: r) else if isDig c then lxNum (c :: r) else if c.toNat = 34 then lxStr (c :: r) else lxSym (c :: r)

/-- a token: kind, text, number, offset -/
structure Tok where
  k : Int
  t : List UInt8
  n : Int
  o : Int
/-- the tokens of a text: a bound on their number, the bytes left, their offset -/
def lexF : Nat → List UInt8 → Nat → List Tok × Int × Int
  | 0, _, _ => ([], 0, 0)
  | f + 1, l, o =>
    if l.drop (skipL false l) = [] then ([], 0, 0)
    else if (lxScan (l.drop (skipL false l))).code = 0 then
      (if (lexF f ((l.drop (skipL false l)).drop (lxScan (l.drop (skipL false l))).len) (o + skipL false l + (lxScan (l.drop (skipL false l))).len)).2.2 = 0
       then (⟨(lxScan (l.drop (skipL false l))).k, (lxScan (l.drop (skipL false l))).t, (lxScan (l.drop (skipL false l))).n, ((o + skipL false l : Nat) : Int)⟩ :: (lexF f ((l.drop (skipL false l)).drop (lxScan (l.drop (skipL false l))).len) (o + skipL false l + (lxScan (l.drop (skipL false l))).len)).1, 0, 0)
       else lexF f ((l.drop (skipL false l)).drop (lxScan (l.drop (skipL false l))).len) (o + skipL false l + (lxScan (l.drop (skipL false l))).len))
    else ([], ((o + skipL false l : Nat) : Int), (lxScan (l.drop (skipL false l))).code)
def tokR (l : List UInt8) : List Tok × Int × Int := if 65536 < l.length then ([], 0, 4) else lexF (l.length + 1) l 0
/-- what comes of tokens gathered and of the rest -/
def comb (a : List Tok) (p : List Tok × Int × Int) : List Tok × Int × Int := if p.2.2 = 0 then (a ++ p.1, 0, 0) else p
theorem comb_nil (p : List Tok × Int × Int) (h : p.2.2 = 0 → p.2.1 = 0) : comb [] p = p := by
  unfold comb
  split
  · rename_i h0
    obtain ⟨a, b, c⟩ := p
    simp only at h0 h
    rw [h h0, h0]; rfl
  · rfl
theorem lexF_ok (f : Nat) : ∀ l o, (lexF f l o).2.2 = 0 → (lexF f l o).2.1 = 0 := by
  induction f with
  | zero => intro l o _; rfl
  | succ f ih =>
    intro l o h
    rw [lexF] at h ⊢
    split at h
    · rename_i h1
      rw [if_pos h1]
    · rename_i h1
      rw [if_neg h1]
      split at h
      · rename_i h2
        rw [if_pos h2]
        split at h
        · rename_i h3; rw [if_pos h3]
        · rename_i h3; exact absurd h h3
      · rename_i h2; exact absurd h h2
theorem lexF_end (f : Nat) (l : List UInt8) (o : Nat) (a : List Tok) (h : l.drop (skipL false l) = []) : comb a (lexF f l o) = (a, 0, 0) := by
  cases f with
  | zero => simp [lexF, comb]
  | succ f => rw [lexF, if_pos h]; simp [comb]
theorem lexF_bad (f : Nat) (l : List UInt8) (o j : Nat) (a : List Tok) (hj : skipL false l = j) (h : l.drop j ≠ []) (hc : (lxScan (l.drop j)).code ≠ 0) : comb a (lexF (f + 1) l o) = ([], ((o + j : Nat) : Int), (lxScan (l.drop j)).code) := by
  subst hj
  rw [lexF, if_neg h, if_neg hc, comb, if_neg hc]
theorem lexF_next (f : Nat) (l : List UInt8) (o j : Nat) (a : List Tok) (r : SR) (hj : skipL false l = j) (h : l.drop j ≠ []) (hr : lxScan (l.drop j) = r) (hc : r.code = 0) :
    comb a (lexF (f + 1) l o) = comb (a ++ [⟨r.k, r.t, r.n, ((o + j : Nat) : Int)⟩]) (lexF f ((l.drop j).drop r.len) (o + j + r.len)) := by
  subst hj; subst hr
  rw [lexF, if_neg h, if_pos hc]
  generalize lexF f _ _ = p
  unfold comb
  by_cases hp : p.2.2 = 0
  · rw [if_pos hp, if_pos hp, if_pos rfl]; simp
  · rw [if_neg hp, if_neg hp, if_neg hp]

theorem digB_lead {l : List UInt8} (h : digB l = true) : lead_of isDig l = l.length := by
  have := lead_of_app (p := isDig) (a := l) (b := []) h (.inl rfl)
  simpa using this
/-- a token that was read takes a byte at least, and no more than there are -/
theorem lxName_len {l : List UInt8} (h : (lxName l).code = 0) : (lxName l).len = lead_of wordB l ∧ lead_of wordB l ≤ 16 := by
  unfold lxName at h ⊢
  split at h
  · cases h
  · rename_i h16; rw [if_neg h16]; exact ⟨rfl, by omega⟩
theorem lxNum_len {l : List UInt8} (h : (lxNum l).code = 0) : lxNum l = ⟨0, (lxKL l).1, l.take (lxKL l).2, (lxVal (lxKL l).1 (l.take (lxKL l).2)).1, (lxKL l).2⟩ ∧ zeroB l = false ∧ gluedAt l[(lxKL l).2]? = false ∧ (lxVal (lxKL l).1 (l.take (lxKL l).2)).2 = 0 := by
  unfold lxNum at h ⊢
  cases hz : zeroB l
  · cases hg : gluedAt l[(lxKL l).2]?
    · rw [hz, hg] at h
      by_cases hv : (lxVal (lxKL l).1 (l.take (lxKL l).2)).2 = 0
      · exact ⟨by simp [hv], rfl, rfl, hv⟩
      · simp [hv, SR.err] at h
    · rw [hz, hg] at h; cases h
  · rw [hz] at h; cases h
theorem get_lt {l : List UInt8} {i : Nat} {c : UInt8} (h : l[i]? = some c) : i < l.length := (List.getElem?_eq_some_iff.1 h).1
theorem pointB_iff {l : List UInt8} {q : Nat} : pointB l q = true ↔ l[lead_of isDig l]? = some 46 ∧ lead_of isDig (l.drop (lead_of isDig l + 1)) = q := by
  simp [pointB]
theorem lxKL_le {l : List UInt8} : (lxKL l).2 ≤ l.length := by
  unfold lxKL
  split
  · rename_i h
    simp only [datedB, Bool.and_eq_true, decide_eq_true_eq] at h
    exact h.1
  · split
    · rename_i h
      have h' := pointB_iff.1 h
      have := lead_of_le isDig (l.drop (lead_of isDig l + 1))
      rw [List.length_drop] at this
      have := get_lt h'.1
      simp only; omega
    · split
      · rename_i h
        simp only [rateB, Bool.and_eq_true, beq_iff_eq] at h
        have := get_lt h.2
        simp only; omega
      · exact lead_of_le _ _
theorem lxKL_pos {c : UInt8} {r : List UInt8} (h : isDig c = true) : 1 ≤ (lxKL (c :: r)).2 := by
  have := lead_of_pos (p := isDig) (r := r) h
  unfold lxKL
  split
  · decide
  · split
    · simp only; omega
    · split <;> simp only <;> omega
theorem lxScan_len {l : List UInt8} (h : (lxScan l).code = 0) : 1 ≤ (lxScan l).len ∧ (lxScan l).len ≤ l.length := by
  cases l with
  | nil => cases h
  | cons c r =>
    rw [lxScan] at h ⊢
    split at h
    · rename_i h1; rw [if_pos h1]; exact ⟨Nat.le_refl _, by simp⟩
    · rename_i h1
      rw [if_neg h1]
      split at h
      · rename_i h2
        rw [if_pos h2]
        obtain ⟨e, _⟩ := lxName_len h
        rw [e]
        exact ⟨lead_of_pos (by simp [wordB, h2]), lead_of_le _ _⟩
      · rename_i h2
        rw [if_neg h2]
        split at h
        · rename_i h3
          rw [if_pos h3]
          obtain ⟨e, _⟩ := lxNum_len h
          rw [e]
          exact ⟨lxKL_pos h3, lxKL_le⟩
        · rename_i h3
          rw [if_neg h3]
          split at h
          · rename_i h4
            rw [if_pos h4]
            unfold lxStr at h ⊢
            split at h
            · rename_i h5
              rw [if_pos h5]
              split at h
              · rename_i h6
                rw [if_pos h6]
                split at h
                · cases h
                · rename_i h7
                  rw [if_neg h7]
                  have := get_lt h5
                  simp only [List.length_cons, List.drop_one, List.tail_cons] at this ⊢
                  omega
              · cases h
            · cases h
          · rename_i h4
            rw [if_neg h4]
            rw [lxSym] at h ⊢
            split at h
            · rename_i h5
              rw [if_pos h5]
              cases r with
              | nil => cases h5.1
              | cons d r => simp
            · rename_i h5
              rw [if_neg h5]
              split at h
              · rename_i h6; rw [if_pos h6]; simp
              · cases h
end Go.Proofs.YtjeifmjcgemlgaaGreatDoor
/- Plain facts about the tokens of a text: where they stand, and what is read from their text. No program stands here. -/
namespace Go.Proofs.YtjeifmjcgemlgaaGreatDoor

/-- where a token's text begins, behind its offset -/
def quoteN (k : Int) : Nat := if k = 6 then 1 else 0
def srcL (k : Int) (t : List UInt8) : List UInt8 := if k = 6 then 34 :: (t ++ [34]) else t
theorem srcL_six (t : List UInt8) : srcL 6 t = 34 :: (t ++ [34]) := rfl
theorem srcL_no {k : Int} (h : k ≠ 6) (t : List UInt8) : srcL k t = t := by rw [srcL, if_neg h]
theorem lxKL_kind (l : List UInt8) : (lxKL l).1 = 5 ∨ (lxKL l).1 = 3 ∨ (lxKL l).1 = 4 ∨ (lxKL l).1 = 2 := by
  unfold lxKL
  split
  · exact .inl rfl
  · split
    · exact .inr (.inl rfl)
    · split
      · exact .inr (.inr (.inl rfl))
      · exact .inr (.inr (.inr rfl))
/-- what a token that was read has taken -/
theorem lxScan_src {l : List UInt8} (h : (lxScan l).code = 0) : srcL (lxScan l).k (lxScan l).t = l.take (lxScan l).len := by
  cases l with
  | nil => cases h
  | cons c r =>
    rw [lxScan] at h ⊢
    split at h
    · rename_i h1
      rw [if_pos h1]
      rw [show c = 10 from UInt8.toNat_inj.1 h1]; rfl
    · rename_i h1
      rw [if_neg h1]
      split at h
      · rename_i h2
        rw [if_pos h2]
        unfold lxName at h ⊢
        split at h
        · cases h
        · rename_i h3; rw [if_neg h3]; rfl
      · rename_i h2
        rw [if_neg h2]
        split at h
        · rename_i h3
          rw [if_pos h3]
          obtain ⟨e, _⟩ := lxNum_len h
          rw [e]
          exact srcL_no (by rcases lxKL_kind (c :: r) with e | e | e | e <;> simp only [e] <;> decide) _
        · rename_i h3
          rw [if_neg h3]
          split at h
          · rename_i h4
            rw [if_pos h4]
            unfold lxStr at h ⊢
            split at h
            · rename_i h5
              rw [if_pos h5]
              split at h
              · rename_i h6
                rw [if_pos h6]
                split at h
                · cases h
                · rename_i h7
                  rw [if_neg h7]
                  simp only [List.drop_one, List.tail_cons] at h5 ⊢
                  rw [srcL_six, show lead_of inStr r + 2 = (lead_of inStr r + 1) + 1 from rfl, List.take_succ_cons, List.take_add_one, h5, show c = 34 from UInt8.toNat_inj.1 h4]
                  rfl
              · cases h
            · cases h
          · rename_i h4
            rw [if_neg h4]
            rw [lxSym] at h ⊢
            split at h
            · rename_i h5
              rw [if_pos h5]
              cases r with
              | nil => cases h5.1
              | cons d r =>
                have : d = 61 := Option.some.inj h5.1
                rw [this]; rfl
            · rename_i h5
              rw [if_neg h5]
              split at h
              · rename_i h6; rw [if_pos h6]; rfl
              · cases h

/-- the token stands in the text at its offset -/
def TokAt (s : List UInt8) (t : Tok) : Prop := ∃ p : Nat, t.o = p ∧ p + quoteN t.k + t.t.length ≤ s.length ∧ (s.drop (p + quoteN t.k)).take t.t.length = t.t
theorem scan_at {s : List UInt8} {p : Nat} (h : (lxScan (s.drop p)).code = 0) (hp : p < s.length) : TokAt s ⟨(lxScan (s.drop p)).k, (lxScan (s.drop p)).t, (lxScan (s.drop p)).n, (p : Int)⟩ := by
  have h1 := lxScan_src h
  have h2 := (lxScan_len h).2
  generalize lxScan (s.drop p) = r at *
  refine ⟨p, rfl, ?_⟩
  rw [List.length_drop] at h2
  by_cases h6 : r.k = 6
  · rw [h6, srcL_six] at h1
    have hl := congrArg List.length h1
    simp only [List.length_cons, List.length_append, List.length_nil, List.length_take, List.length_drop] at hl
    simp only [h6, quoteN, if_true]
    refine ⟨by omega, ?_⟩
    have e : (s.drop p).take (r.t.length + 1) = 34 :: r.t := by
      have := congrArg (List.take (r.t.length + 1)) h1
      rw [List.take_take, Nat.min_eq_left (by omega)] at this
      rw [← this, List.take_succ_cons, List.take_left' rfl]
    rw [← List.drop_drop]
    have e2 := congrArg (List.drop 1) e
    rw [List.drop_take] at e2
    simpa using e2
  · rw [srcL_no h6] at h1
    have hl := congrArg List.length h1
    simp only [List.length_take, List.length_drop] at hl
    simp only [quoteN, if_neg h6, Nat.add_zero]
    refine ⟨by omega, ?_⟩
    rw [hl, Nat.min_eq_left (by omega), h1]
theorem lexF_toks (s : List UInt8) : ∀ (f : Nat) (o : Nat), (lexF f (s.drop o) o).2.2 = 0 → ∀ (i : Nat) (t : Tok), (lexF f (s.drop o) o).1[i]? = some t →
    TokAt s t ∧ (o : Int) ≤ t.o ∧ ∀ t', 0 < i → (lexF f (s.drop o) o).1[i - 1]? = some t' → t'.o < t.o := by
  intro f
  induction f with
  | zero => intro o _ i t h; simp [lexF] at h
  | succ f ih =>
    intro o hc i t h
    generalize hj : skipL false (s.drop o) = j at *
    by_cases hn : (s.drop o).drop j = []
    · rw [lexF, hj, if_pos hn] at h; simp at h
    · have hlen : o + j < s.length := by
        rw [List.drop_drop, List.drop_eq_nil_iff] at hn; omega
      by_cases hs : (lxScan ((s.drop o).drop j)).code = 0
      · have hln := lxScan_len hs
        rw [lexF, hj, if_neg hn, if_pos hs] at hc h ⊢
        have hds : ((s.drop o).drop j).drop (lxScan ((s.drop o).drop j)).len = s.drop (o + j + (lxScan ((s.drop o).drop j)).len) := by rw [List.drop_drop, List.drop_drop]; simp only [Nat.add_assoc]
        rw [hds] at hc h ⊢
        have hat := scan_at (s := s) (p := o + j) (by rw [← List.drop_drop]; exact hs) hlen
        rw [← List.drop_drop] at hat
        generalize lxScan ((s.drop o).drop j) = r at *
        by_cases hp : (lexF f (s.drop (o + j + r.len)) (o + j + r.len)).2.2 = 0
        · have IH := ih _ hp
          rw [if_pos hp] at h ⊢
          cases i with
          | zero =>
            have e : _ = t := Option.some.inj h
            subst e
            exact ⟨hat, by simp only; omega, fun _ h0 => absurd h0 (by omega)⟩
          | succ i =>
            simp only [List.getElem?_cons_succ] at h
            obtain ⟨g1, g2, g3⟩ := IH i t h
            refine ⟨g1, by omega, fun t' _ ht' => ?_⟩
            cases i with
            | zero =>
              have e : _ = t' := Option.some.inj ht'
              subst e
              simp only; omega
            | succ i => exact g3 t' (by omega) (by simpa using ht')
        · rw [if_neg hp] at hc; exact absurd hc hp
      · rw [lexF, hj, if_neg hn, if_neg hs] at hc; exact absurd hc hs
theorem lexF_err (s : List UInt8) : ∀ (f : Nat) (o : Nat), o ≤ s.length → (lexF f (s.drop o) o).2.2 ≠ 0 → (lexF f (s.drop o) o).1 = [] ∧ 0 ≤ (lexF f (s.drop o) o).2.1 ∧ (lexF f (s.drop o) o).2.1 ≤ s.length := by
  intro f
  induction f with
  | zero => intro o _ h; exact absurd rfl h
  | succ f ih =>
    intro o ho hc
    have hj2 := skipL_le false (s.drop o)
    generalize hj : skipL false (s.drop o) = j at *
    rw [List.length_drop] at hj2
    by_cases hn : (s.drop o).drop j = []
    · rw [lexF, hj, if_pos hn] at hc; exact absurd rfl hc
    · by_cases hs : (lxScan ((s.drop o).drop j)).code = 0
      · have hln := (lxScan_len hs).2
        rw [lexF, hj, if_neg hn, if_pos hs] at hc ⊢
        have hds : ((s.drop o).drop j).drop (lxScan ((s.drop o).drop j)).len = s.drop (o + j + (lxScan ((s.drop o).drop j)).len) := by rw [List.drop_drop, List.drop_drop]; simp only [Nat.add_assoc]
        rw [hds] at hc ⊢
        generalize lxScan ((s.drop o).drop j) = r at *
        rw [List.length_drop, List.length_drop] at hln
        by_cases hp : (lexF f (s.drop (o + j + r.len)) (o + j + r.len)).2.2 = 0
        · rw [if_pos hp] at hc; exact absurd rfl hc
        · rw [if_neg hp] at hc ⊢
          exact ih _ (by omega) hc
      · rw [lexF, hj, if_neg hn, if_neg hs]
        exact ⟨rfl, by simp only; omega, by simp only; omega⟩

/-! what is read again -/
def okRest (b : List UInt8) : Prop := b.head? = none ∨ b.head? = some 32 ∨ b.head? = some 10
structure Good (k : Int) (t : List UInt8) (n : Int) : Prop where
  scan : ∀ b, okRest b ∨ k = 8 → lxScan (srcL k t ++ b) = ⟨0, k, t, n, (srcL k t).length⟩
  skip : ∀ b, skipL false (srcL k t ++ b) = 0
  ne : srcL k t ≠ []
  nl : k = 8 → t = [10]
theorem okRest_p {p : UInt8 → Bool} {b : List UInt8} (h : okRest b) (h1 : p 32 = false) (h2 : p 10 = false) : b.head? = none ∨ ∃ c, b.head? = some c ∧ p c = false := by
  rcases h with h | h | h
  · exact .inl h
  · exact .inr ⟨32, h, h1⟩
  · exact .inr ⟨10, h, h2⟩
theorem okRest_glued {b : List UInt8} (h : okRest b) : gluedAt b.head? = false := by
  rcases h with h | h | h <;> rw [h] <;> decide
theorem skip_head {c : UInt8} {r : List UInt8} (h1 : c.toNat ≠ 35) (h2 : c.toNat ≠ 32) (h3 : c.toNat ≠ 9) : skipL false (c :: r) = 0 := by
  rw [skipL, if_neg h1, if_neg (by omega)]
/-- the bytes of a number's text -/
def numCh (c : UInt8) : Bool := isDig c || (decide (c.toNat = 46) || decide (c.toNat = 37))
theorem all_at {p : UInt8 → Bool} {l : List UInt8} {i : Nat} {c : UInt8} (h : l.all p = true) (hi : l[i]? = some c) : p c = true :=
  List.all_eq_true.1 h c (List.mem_of_getElem? hi)
theorem not_dated {t b : List UInt8} (ht : t.all numCh = true) (hb : okRest b) : datedB (t ++ b) = false := by
  rw [Bool.eq_false_iff]
  intro h
  simp only [datedB, Bool.and_eq_true, decide_eq_true_eq, beq_iff_eq] at h
  obtain ⟨hl, hd, h4, _⟩ := h
  rcases Nat.lt_trichotomy t.length 4 with hlt | he | hgt
  · have hbl : t.length < (t ++ b).length := by omega
    have hb0 : b ≠ [] := by intro e; rw [e] at hbl; simp at hbl
    obtain ⟨c, r, rfl⟩ : ∃ c r, b = c :: r := by cases b with | nil => exact absurd rfl hb0 | cons c r => exact ⟨c, r, rfl⟩
    have hc : ((t ++ c :: r).take 4)[t.length]? = some c := by
      rw [List.getElem?_take_of_lt hlt, List.getElem?_append_right (Nat.le_refl _), Nat.sub_self]; rfl
    have := all_at (p := isDig) hd hc
    rcases hb with hb | hb | hb
    · cases hb
    · have : c = 32 := Option.some.inj hb
      subst this; revert this; decide
    · have : c = 10 := Option.some.inj hb
      subst this; revert this; decide
  · rw [List.getElem?_append_right (by omega), he, Nat.sub_self, ← List.head?_eq_getElem?] at h4
    rcases hb with hb | hb | hb <;> rw [hb] at h4 <;> exact absurd h4 (by decide)
  · rw [List.getElem?_append_left hgt] at h4
    have := all_at ht h4
    revert this; decide
theorem dated_app {l b : List UInt8} (h : datedB l = true) : datedB (l.take 10 ++ b) = true := by
  simp only [datedB, Bool.and_eq_true, decide_eq_true_eq, beq_iff_eq] at h ⊢
  obtain ⟨hl, h1, h2, h3, h4, h5⟩ := h
  have ht : (l.take 10).length = 10 := by rw [List.length_take]; omega
  refine ⟨by rw [List.length_append]; omega, ?_, ?_, ?_, ?_, ?_⟩
  · rw [List.take_append_of_le_length (by omega), List.take_take]; exact h1
  · rw [List.getElem?_append_left (by omega), List.getElem?_take_of_lt (by omega)]; exact h2
  · rw [List.drop_append_of_le_length (by omega), List.take_append_of_le_length (by rw [List.length_drop]; omega), List.drop_take, List.take_take]; exact h3
  · rw [List.getElem?_append_left (by omega), List.getElem?_take_of_lt (by omega)]; exact h4
  · rw [List.drop_append_of_le_length (by omega), List.take_append_of_le_length (by rw [List.length_drop]; omega), List.drop_take, List.take_take]; exact h5
theorem dig_not46 : isDig 46 = false := by decide
/-- a number's kind and length stay when another rest follows -/
theorem lxKL_app {l b : List UInt8} (hb : okRest b) : lxKL (l.take (lxKL l).2 ++ b) = lxKL l ∧ datedB (l.take (lxKL l).2 ++ b) = datedB l ∧ (l.head?.map isDig = some true → lead_of isDig (l.take (lxKL l).2 ++ b) = lead_of isDig l ∨ datedB l = true) := by
  cases hd : datedB l
  · have hW := lead_of_all (p := isDig) (l := l)
    have hWl := lead_of_le isDig l
    generalize hw : lead_of isDig l = W at *
    have hWlen : (l.take W).length = W := by rw [List.length_take]; omega
    cases h2 : pointB l 2
    · cases h4 : rateB l
      · -- an integer
        have e : lxKL l = (2, W) := by unfold lxKL; rw [hd, h2, h4, hw]; rfl
        rw [e]
        dsimp only
        have hnd : datedB (l.take W ++ b) = false := not_dated (by
          rw [List.all_eq_true] at hW ⊢
          intro x hx; rw [numCh, hW x hx]; rfl) hb
        have hlead : lead_of isDig (l.take W ++ b) = W := by
          rw [lead_of_app hW (okRest_p hb (by decide) (by decide)), hWlen]
        have hpt : ∀ q, pointB (l.take W ++ b) q = false := by
          intro q
          rw [pointB, hlead, List.getElem?_append_right (by omega), hWlen, Nat.sub_self, ← List.head?_eq_getElem?]
          rcases hb with hb | hb | hb <;> rw [hb] <;> rfl
        refine ⟨?_, hnd, fun _ => .inl hlead⟩
        unfold lxKL
        rw [hnd, hpt 2, rateB, hpt 4, hlead]; rfl
      · -- a rate
        have e : lxKL l = (4, W + 6) := by unfold lxKL; rw [hd, h2, h4, hw]; rfl
        rw [e]
        dsimp only
        rw [rateB, Bool.and_eq_true, beq_iff_eq, pointB_iff, hw] at h4
        obtain ⟨⟨p1, p2⟩, p3⟩ := h4
        have hlen := get_lt p3
        have hF := lead_of_all (p := isDig) (l := l.drop (W + 1))
        rw [p2] at hF
        have hsplit : l.take (W + 6) = l.take W ++ (46 :: ((l.drop (W + 1)).take 4 ++ [37])) := by
          rw [show W + 6 = W + (1 + (4 + 1)) from rfl, List.take_add, List.take_add (i := 1), List.drop_drop, List.take_add_one (i := 4)]
          rw [show (l.drop W).take 1 = [46] by rw [List.take_one, List.head?_drop, p1]; rfl]
          rw [List.getElem?_drop, show W + 1 + 4 = W + 5 from by omega, p3]; rfl
        have hFl : ((l.drop (W + 1)).take 4).length = 4 := by rw [List.length_take, List.length_drop]; omega
        have hlead : lead_of isDig (l.take (W + 6) ++ b) = W := by
          rw [hsplit, List.append_assoc, lead_of_app hW (.inr ⟨46, rfl, dig_not46⟩), hWlen]
        have hdrop : (l.take (W + 6) ++ b).drop (W + 1) = (l.drop (W + 1)).take 4 ++ (37 :: b) := by
          rw [hsplit, List.append_assoc, show W + 1 = (l.take W).length + 1 by rw [hWlen], ← List.drop_drop, List.drop_left' rfl]
          simp
        have hget : ∀ i, i < W + 6 → (l.take (W + 6) ++ b)[i]? = l[i]? := fun i hi => by
          rw [List.getElem?_append_left (by rw [List.length_take]; omega), List.getElem?_take_of_lt hi]
        have hl4 : lead_of isDig ((l.take (W + 6) ++ b).drop (W + 1)) = 4 := by
          rw [hdrop, lead_of_app hF (.inr ⟨37, rfl, by decide⟩), hFl]
        have hpt : ∀ q, pointB (l.take (W + 6) ++ b) q = (4 == q) := by
          intro q
          rw [pointB, hlead, hl4, hget W (by omega), p1]; rfl
        have hnd : datedB (l.take (W + 6) ++ b) = false := not_dated (by
          rw [hsplit, List.all_append, List.all_cons, List.all_append]
          have i1 : (l.take W).all numCh = true := by
            rw [List.all_eq_true] at hW ⊢
            intro x hx; rw [numCh, hW x hx]; rfl
          have i2 : ((l.drop (W + 1)).take 4).all numCh = true := by
            rw [List.all_eq_true] at hF ⊢
            intro x hx; rw [numCh, hF x hx]; rfl
          rw [i1, i2]; decide) hb
        refine ⟨?_, hnd, fun _ => .inl hlead⟩
        unfold lxKL
        rw [hnd, hpt 2, rateB, hpt 4, hlead, hget (W + 5) (by omega), p3]; rfl
    · -- an amount
      have e : lxKL l = (3, W + 3) := by unfold lxKL; rw [hd, h2, hw]; rfl
      rw [e]
      dsimp only
      rw [pointB_iff, hw] at h2
      obtain ⟨p1, p2⟩ := h2
      have hlen := get_lt p1
      have hF := lead_of_all (p := isDig) (l := l.drop (W + 1))
      have hF2 := lead_of_le isDig (l.drop (W + 1))
      rw [p2, List.length_drop] at hF2
      rw [p2] at hF
      have hsplit : l.take (W + 3) = l.take W ++ (46 :: (l.drop (W + 1)).take 2) := by
        rw [show W + 3 = W + (1 + 2) from rfl, List.take_add, List.take_add (i := 1), List.drop_drop]
        rw [show (l.drop W).take 1 = [46] by rw [List.take_one, List.head?_drop, p1]; rfl]
        rfl
      have hFl : ((l.drop (W + 1)).take 2).length = 2 := by rw [List.length_take, List.length_drop]; omega
      have hlead : lead_of isDig (l.take (W + 3) ++ b) = W := by
        rw [hsplit, List.append_assoc, lead_of_app hW (.inr ⟨46, rfl, dig_not46⟩), hWlen]
      have hdrop : (l.take (W + 3) ++ b).drop (W + 1) = (l.drop (W + 1)).take 2 ++ b := by
        rw [hsplit, List.append_assoc, show W + 1 = (l.take W).length + 1 by rw [hWlen], ← List.drop_drop, List.drop_left' rfl]
        simp
      have hget : ∀ i, i < W + 3 → (l.take (W + 3) ++ b)[i]? = l[i]? := fun i hi => by
        rw [List.getElem?_append_left (by rw [List.length_take]; omega), List.getElem?_take_of_lt hi]
      have hl2 : lead_of isDig ((l.take (W + 3) ++ b).drop (W + 1)) = 2 := by
        rw [hdrop, lead_of_app hF (okRest_p hb (by decide) (by decide)), hFl]
      have hpt : ∀ q, pointB (l.take (W + 3) ++ b) q = (2 == q) := by
        intro q
        rw [pointB, hlead, hl2, hget W (by omega), p1]; rfl
      have hnd : datedB (l.take (W + 3) ++ b) = false := not_dated (by
        rw [hsplit, List.all_append, List.all_cons]
        have i1 : (l.take W).all numCh = true := by
          rw [List.all_eq_true] at hW ⊢
          intro x hx; rw [numCh, hW x hx]; rfl
        have i2 : ((l.drop (W + 1)).take 2).all numCh = true := by
          rw [List.all_eq_true] at hF ⊢
          intro x hx; rw [numCh, hF x hx]; rfl
        rw [i1, i2]; decide) hb
      refine ⟨?_, hnd, fun _ => .inl hlead⟩
      unfold lxKL
      rw [hnd, hpt 2, hlead]; rfl
  · have e : lxKL l = (5, 10) := by unfold lxKL; rw [hd]; rfl
    rw [e]
    dsimp only
    refine ⟨?_, dated_app hd, fun _ => .inr rfl⟩
    unfold lxKL; rw [dated_app hd]; rfl
theorem num_good {c : UInt8} {r : List UInt8} (hc : isDig c = true) (h : (lxNum (c :: r)).code = 0) :
    ∀ b, okRest b → lxNum ((lxNum (c :: r)).t ++ b) = lxNum (c :: r) := by
  intro b hb
  obtain ⟨e, hz, _, hv⟩ := lxNum_len h
  have hle := lxKL_le (l := c :: r)
  have hpos := lxKL_pos (r := r) hc
  obtain ⟨g1, g2, g3⟩ := lxKL_app (l := c :: r) hb
  have g3' := g3 (by simp [hc])
  rw [e]
  dsimp only
  generalize hl : c :: r = l at *
  have h0 : l[0]? = some c := by rw [← hl]; rfl
  have htl : (l.take (lxKL l).2).length = (lxKL l).2 := by rw [List.length_take]; omega
  have hz' : zeroB (l.take (lxKL l).2 ++ b) = false := by
    unfold zeroB at hz ⊢
    rw [g2]
    rcases g3' with g | g
    · rw [g, List.getElem?_append_left (by omega), List.getElem?_take_of_lt (by omega)]; exact hz
    · rw [g]; rfl
  have htk : (l.take (lxKL l).2 ++ b).take (lxKL l).2 = l.take (lxKL l).2 := List.take_left' htl
  unfold lxNum
  rw [hz', g1, htk, List.getElem?_append_right (by omega), htl, Nat.sub_self, ← List.head?_eq_getElem?, okRest_glued hb, if_pos hv]
  rfl
theorem scan_good {l : List UInt8} (h : (lxScan l).code = 0) : Good (lxScan l).k (lxScan l).t (lxScan l).n := by
  cases l with
  | nil => cases h
  | cons c r =>
    have hsrc := lxScan_src h
    rw [lxScan] at h hsrc ⊢
    split at h
    · rename_i h1
      rw [if_pos h1]
      exact ⟨fun b _ => rfl, fun b => rfl, by decide, fun _ => rfl⟩
    · rename_i h1
      rw [if_neg h1] at hsrc ⊢
      split at h
      · rename_i h2
        rw [if_pos h2] at hsrc ⊢
        have hl := lxName_len h
        have hpos := lead_of_pos (p := wordB) (c := c) (r := r) (by simp [wordB, h2])
        have hle := lead_of_le wordB (c :: r)
        have hall := lead_of_all (p := wordB) (l := c :: r)
        have e : lxName (c :: r) = ⟨0, 1, (c :: r).take (lead_of wordB (c :: r)), 0, lead_of wordB (c :: r)⟩ := by unfold lxName; rw [if_neg (by omega)]
        rw [e]
        dsimp only
        generalize hW : lead_of wordB (c :: r) = W at *
        obtain ⟨W', rfl⟩ : ∃ W', W = W' + 1 := ⟨W - 1, by omega⟩
        rw [List.take_succ_cons] at hall ⊢
        have htl : (r.take W').length = W' := by rw [List.length_take]; simp only [List.length_cons] at hle; omega
        have hlow : 97 ≤ c.toNat ∧ c.toNat ≤ 122 := by simpa [lowB] using h2
        have k6 : (1 : Int) ≠ 6 := by decide
        have k8 : ¬ (1 : Int) = 8 := by decide
        refine ⟨fun b hb => ?_, fun b => ?_, by rw [srcL_no k6]; simp, fun h8 => absurd h8 k8⟩
        · rw [srcL_no (by decide)]
          have hb' : okRest b := by rcases hb with hb | hb; exact hb; exact absurd hb (by decide)
          have hlead := lead_of_app (p := wordB) hall (okRest_p hb' (by decide) (by decide))
          rw [List.length_cons, htl] at hlead
          rw [List.cons_append, lxScan, if_neg (by omega), if_pos h2, lxName]
          rw [List.cons_append] at hlead
          rw [hlead, if_neg (by omega), List.length_cons, htl, List.take_succ_cons, List.take_left' htl]
        · rw [srcL_no (by decide), List.cons_append]
          exact skip_head (by omega) (by omega) (by omega)
      · rename_i h2
        rw [if_neg h2] at hsrc ⊢
        split at h
        · rename_i h3
          rw [if_pos h3] at hsrc ⊢
          have hg := num_good h3 h
          obtain ⟨e, _⟩ := lxNum_len h
          have hpos := lxKL_pos (r := r) h3
          have hle := lxKL_le (l := c :: r)
          have hk : (lxNum (c :: r)).k ≠ 6 ∧ (lxNum (c :: r)).k ≠ 8 := by
            rw [e]; rcases lxKL_kind (c :: r) with e | e | e | e <;> simp only [e] <;> decide
          have hlen : (lxNum (c :: r)).len = (lxNum (c :: r)).t.length := by
            rw [e]; dsimp only; rw [List.length_take]; omega
          have hcode : (lxNum (c :: r)).code = 0 := h
          obtain ⟨m, hm⟩ : ∃ m, (lxNum (c :: r)).t = c :: m := by
            rw [e]; dsimp only
            obtain ⟨q, hq⟩ : ∃ q, (lxKL (c :: r)).2 = q + 1 := ⟨(lxKL (c :: r)).2 - 1, by omega⟩
            rw [hq]; exact ⟨_, rfl⟩
          have hdg := isDig_iff.1 h3
          generalize lxNum (c :: r) = R at *
          rw [srcL_no hk.1] at *
          refine ⟨fun b hb => ?_, fun b => ?_, by rw [srcL_no hk.1, hm]; simp, fun h8 => absurd h8 hk.2⟩
          · rw [srcL_no hk.1]
            have hb' : okRest b := by rcases hb with hb | hb; exact hb; exact absurd hb hk.2
            have := hg b hb'
            rw [hm, List.cons_append] at this ⊢
            rw [lxScan, if_neg (by omega), if_neg (by simp [lowB]; omega), if_pos h3, this, ← hm, ← hlen, ← hcode]
          · rw [srcL_no hk.1, hm, List.cons_append]
            exact skip_head (by omega) (by omega) (by omega)
        · rename_i h3
          rw [if_neg h3] at hsrc ⊢
          split at h
          · rename_i h4
            rw [if_pos h4] at hsrc ⊢
            have hc34 : c = 34 := UInt8.toNat_inj.1 h4
            unfold lxStr at h ⊢
            split at h
            · rename_i h5
              rw [if_pos h5]
              split at h
              · rename_i h6
                rw [if_pos h6]
                split at h
                · cases h
                · rename_i h7
                  rw [if_neg h7]
                  simp only [List.drop_one, List.tail_cons] at h5 h6 h7 ⊢
                  have hall := lead_of_all (p := inStr) (l := r)
                  have hle := lead_of_le inStr r
                  generalize lead_of inStr r = j at *
                  have htl : (r.take j).length = j := by rw [List.length_take]; omega
                  refine ⟨fun b _ => ?_, fun b => ?_, by rw [srcL_six]; simp, fun h8 => absurd h8 (by decide)⟩
                  · have hlead := lead_of_app (p := inStr) (b := 34 :: b) hall (.inr ⟨34, rfl, by decide⟩)
                    rw [htl] at hlead
                    rw [srcL_six]
                    have e1 : (34 :: (r.take j ++ [34])) ++ b = 34 :: (r.take j ++ 34 :: b) := by simp
                    rw [e1, lxScan, if_neg (by decide), if_neg (by decide), if_neg (by decide), if_pos (by decide), lxStr]
                    simp only [List.drop_one, List.tail_cons]
                    rw [hlead, List.getElem?_append_right (by omega), htl, Nat.sub_self, if_pos (by rfl), List.take_left' htl, if_pos h6, if_neg h7]
                    simp [htl]
                  · rw [srcL_six]; rfl
              · cases h
            · cases h
          · rename_i h4
            rw [if_neg h4] at hsrc ⊢
            rw [lxSym] at h hsrc ⊢
            split at h
            · rename_i h5
              rw [if_pos h5]
              have k6 : (7 : Int) ≠ 6 := by decide
              have k8 : ¬ (7 : Int) = 8 := by decide
              have hs2 : c.toNat = 60 ∨ c.toNat = 61 ∨ c.toNat = 33 := by simpa [sym2] using h5.2
              refine ⟨fun b _ => ?_, fun b => ?_, by rw [srcL_no k6]; simp, fun h8 => absurd h8 k8⟩
              · rw [srcL_no k6, List.cons_append, lxScan, if_neg h1, if_neg h2, if_neg h3, if_neg h4, lxSym, if_pos ⟨rfl, h5.2⟩]; rfl
              · rw [srcL_no k6, List.cons_append]
                exact skip_head (by omega) (by omega) (by omega)
            · rename_i h5
              rw [if_neg h5]
              split at h
              · rename_i h6
                rw [if_pos h6]
                have k6 : (7 : Int) ≠ 6 := by decide
                have k8 : ¬ (7 : Int) = 8 := by decide
                have hs1 : c.toNat = 60 ∨ c.toNat = 61 ∨ c.toNat = 40 ∨ c.toNat = 41 ∨ c.toNat = 44 ∨ c.toNat = 58 ∨ c.toNat = 43 ∨ c.toNat = 45 ∨ c.toNat = 42 := by simpa [sym1] using h6
                refine ⟨fun b hb => ?_, fun b => ?_, by rw [srcL_no k6]; simp, fun h8 => absurd h8 k8⟩
                · have hb' : okRest b := by rcases hb with hb | hb; exact hb; exact absurd hb k8
                  rw [srcL_no k6, List.cons_append, List.nil_append, lxScan, if_neg h1, if_neg h2, if_neg h3, if_neg h4, lxSym, if_neg, if_pos h6]
                  · rfl
                  · rintro ⟨e, _⟩
                    rcases hb' with hb | hb | hb <;> rw [hb] at e <;> exact absurd e (by decide)
                · rw [srcL_no k6, List.cons_append]
                  exact skip_head (by omega) (by omega) (by omega)
              · cases h

/-! Format -/
def sepL (p : Option Int) (k : Int) : List UInt8 := match p with
  | some q => if k ≠ 8 ∧ q ≠ 8 then [32] else []
  | none => []
def joinF : Option Int → List Tok → List UInt8
  | _, [] => []
  | p, t :: r => sepL p t.k ++ (srcL t.k t.t ++ joinF (some t.k) r)
/-- is a token read from its text alone -/
def fmtB (t : Tok) : Bool := decide ((tokR (srcL t.k t.t)).2.2 = 0) && (match (tokR (srcL t.k t.t)).1 with
  | [x] => decide (x.k = t.k) && (decide (x.t = t.t) && decide (x.n = t.n))
  | _ => false)
def fmtR (ts : List Tok) : List UInt8 × Int := if ts.all fmtB then (joinF none ts, 0) else ([], 2)
/-- alike but for the offsets -/
def sameT (a b : Tok) : Prop := a.k = b.k ∧ a.t = b.t ∧ a.n = b.n
theorem fmtB_same {a b : Tok} (h : sameT a b) : fmtB a = fmtB b := by
  obtain ⟨h1, h2, h3⟩ := h
  unfold fmtB; rw [h1, h2, h3]
def sameTs : List Tok → List Tok → Prop
  | [], [] => True
  | a :: x, b :: y => sameT a b ∧ sameTs x y
  | _, _ => False
theorem joinF_same : ∀ (a b : List Tok) (p : Option Int), sameTs a b → joinF p a = joinF p b
  | [], [], _, _ => rfl
  | x :: a, y :: b, p, h => by
    obtain ⟨⟨h1, h2, _⟩, h4⟩ := h
    rw [joinF, joinF, h1, h2, joinF_same a b _ h4]
  | [], _ :: _, _, h => h.elim
  | _ :: _, [], _, h => h.elim
theorem all_same : ∀ (a b : List Tok), sameTs a b → a.all fmtB = b.all fmtB
  | [], [], _ => rfl
  | x :: a, y :: b, h => by
    rw [List.all_cons, List.all_cons, fmtB_same h.1, all_same a b h.2]
  | [], _ :: _, h => h.elim
  | _ :: _, [], h => h.elim
theorem sameTs_length : ∀ (a b : List Tok), sameTs a b → a.length = b.length
  | [], [], _ => rfl
  | _ :: a, _ :: b, h => by rw [List.length_cons, List.length_cons, sameTs_length a b h.2]
  | [], _ :: _, h => h.elim
  | _ :: _, [], h => h.elim
theorem sameTs_get : ∀ (a b : List Tok) (i : Nat) (x y : Tok), sameTs a b → a[i]? = some x → b[i]? = some y → sameT x y
  | [], [], _, _, _, _, h, _ => by simp at h
  | a :: _, b :: _, 0, x, y, h, hx, hy => by
    have e1 : a = x := Option.some.inj hx
    have e2 : b = y := Option.some.inj hy
    rw [← e1, ← e2]; exact h.1
  | _ :: a, _ :: b, i + 1, x, y, h, hx, hy => sameTs_get a b i x y h.2 (by simpa using hx) (by simpa using hy)
  | [], _ :: _, _, _, _, h, _, _ => h.elim
  | _ :: _, [], _, _, _, h, _, _ => h.elim
theorem lexF_nil (f : Nat) (o : Nat) : lexF f [] o = ([], 0, 0) := by
  cases f with
  | zero => rfl
  | succ f => rw [lexF, if_pos]; rfl
theorem good_fmt {t : Tok} (h : Good t.k t.t t.n) (hl : (srcL t.k t.t).length ≤ 65536) : fmtB t = true := by
  have e : tokR (srcL t.k t.t) = ([⟨t.k, t.t, t.n, 0⟩], 0, 0) := by
    have h1 := h.scan [] (.inl (.inl rfl))
    have h2 := h.skip []
    rw [List.append_nil] at h1 h2
    rw [tokR, if_neg (by omega), lexF, h2, List.drop_zero, if_neg h.ne, h1]
    rw [if_pos rfl]
    simp only [List.drop_length, lexF_nil]
    rfl
  unfold fmtB
  rw [e]; simp
def goodTs (ts : List Tok) : Prop := ∀ t, t ∈ ts → Good t.k t.t t.n
theorem joinF_head {ts : List Tok} {k : Int} (hg : goodTs ts) : okRest (joinF (some k) ts) ∨ k = 8 := by
  cases ts with
  | nil => exact .inl (.inl rfl)
  | cons t r =>
    by_cases h8 : k = 8
    · exact .inr h8
    · left
      rw [joinF, sepL]
      by_cases ht : t.k = 8
      · rw [if_neg (by omega), ht, (hg t (by simp)).nl ht]
        exact .inr (.inr rfl)
      · rw [if_pos ⟨ht, h8⟩]; exact .inr (.inl rfl)
/-- the formatted tokens are split into the same tokens again -/
theorem lexF_join : ∀ (ts : List Tok) (p : Option Int) (o f : Nat), goodTs ts → ts.length < f → ∃ ts', lexF f (joinF p ts) o = (ts', 0, 0) ∧ sameTs ts' ts := by
  intro ts
  induction ts with
  | nil => intro p o f _ _; exact ⟨[], lexF_nil f o, trivial⟩
  | cons t r ih =>
    intro p o f hg hf
    obtain ⟨f, rfl⟩ : ∃ g, f = g + 1 := ⟨f - 1, by omega⟩
    have ht := hg t (by simp)
    have hr : goodTs r := fun x hx => hg x (by simp [hx])
    have hs := ht.scan (joinF (some t.k) r) (joinF_head hr)
    have hk := ht.skip (joinF (some t.k) r)
    have hsk : skipL false (joinF p (t :: r)) = (sepL p t.k).length ∧ (joinF p (t :: r)).drop (sepL p t.k).length = srcL t.k t.t ++ joinF (some t.k) r := by
      rw [joinF]
      refine ⟨?_, List.drop_left' rfl⟩
      have hsep : sepL p t.k = [] ∨ sepL p t.k = [32] := by
        unfold sepL
        split
        · split
          · exact .inr rfl
          · exact .inl rfl
        · exact .inl rfl
      rcases hsep with e | e
      · rw [e]; exact hk
      · rw [e, List.cons_append, List.nil_append, skipL, if_neg (by decide), if_pos (by decide), hk]; rfl
    obtain ⟨ts', e1, e2⟩ := ih (some t.k) (o + (sepL p t.k).length + (srcL t.k t.t).length) f hr (by simp only [List.length_cons] at hf; omega)
    refine ⟨⟨t.k, t.t, t.n, ((o + (sepL p t.k).length : Nat) : Int)⟩ :: ts', ?_, ⟨rfl, rfl, rfl⟩, e2⟩
    rw [lexF, hsk.1, hsk.2, if_neg (by
      intro e
      exact ht.ne (List.append_eq_nil_iff.1 e).1), hs]
    dsimp only
    rw [if_pos rfl, List.drop_left' rfl, e1]
    rfl
theorem joinF_len : ∀ (ts : List Tok) (p : Option Int), goodTs ts → ts.length ≤ (joinF p ts).length := by
  intro ts
  induction ts with
  | nil => intro p _; exact Nat.zero_le _
  | cons t r ih =>
    intro p hg
    have := ih (some t.k) (fun x hx => hg x (by simp [hx]))
    have h2 := List.length_pos_iff.2 (hg t (by simp)).ne
    rw [joinF, List.length_append, List.length_append, List.length_cons]
    omega
theorem sepL_len (p : Option Int) (k : Int) : (sepL p k).length ≤ 1 := by
  unfold sepL
  split
  · split <;> simp
  · simp
theorem lexF_good (s : List UInt8) : ∀ (f o : Nat), o ≤ s.length → (lexF f (s.drop o) o).2.2 = 0 → goodTs (lexF f (s.drop o) o).1 ∧ ∀ p, (joinF p (lexF f (s.drop o) o).1).length ≤ 2 * (s.length - o) := by
  intro f
  induction f with
  | zero => intro o _ _; exact ⟨fun t ht => by simp [lexF] at ht, fun p => by simp [lexF, joinF]⟩
  | succ f ih =>
    intro o ho hc
    have hj2 := skipL_le false (s.drop o)
    generalize hj : skipL false (s.drop o) = j at *
    rw [List.length_drop] at hj2
    by_cases hn : (s.drop o).drop j = []
    · rw [lexF, hj, if_pos hn]
      exact ⟨fun t ht => by simp at ht, fun p => by simp [joinF]⟩
    · by_cases hs : (lxScan ((s.drop o).drop j)).code = 0
      · have hln := lxScan_len hs
        have hgd := scan_good hs
        have hsrc := lxScan_src hs
        rw [lexF, hj, if_neg hn, if_pos hs] at hc ⊢
        have hds : ((s.drop o).drop j).drop (lxScan ((s.drop o).drop j)).len = s.drop (o + j + (lxScan ((s.drop o).drop j)).len) := by rw [List.drop_drop, List.drop_drop]; simp only [Nat.add_assoc]
        rw [hds] at hc ⊢
        generalize lxScan ((s.drop o).drop j) = r at *
        rw [List.length_drop, List.length_drop] at hln
        by_cases hp : (lexF f (s.drop (o + j + r.len)) (o + j + r.len)).2.2 = 0
        · obtain ⟨i1, i2⟩ := ih _ (by omega) hp
          rw [if_pos hp]
          refine ⟨fun t ht => ?_, fun p => ?_⟩
          · rcases List.mem_cons.1 ht with rfl | ht
            · exact hgd
            · exact i1 t ht
          · have h1 := i2 (some r.k)
            have h2 := congrArg List.length hsrc
            have h3 := sepL_len p r.k
            rw [List.length_take, List.length_drop, List.length_drop] at h2
            rw [joinF, List.length_append, List.length_append]
            dsimp only
            omega
        · rw [if_neg hp] at hc; exact absurd hc hp
      · rw [lexF, hj, if_neg hn, if_neg hs] at hc; exact absurd hc hs
/-- the round trip -/
theorem lex_round {l : List UInt8} (h3 : l.length ≤ 3000) (hc : (tokR l).2.2 = 0) :
    fmtR (tokR l).1 = (joinF none (tokR l).1, 0) ∧ (joinF none (tokR l).1).length ≤ 6000 ∧
    ∃ m, tokR (joinF none (tokR l).1) = (m, 0, 0) ∧ sameTs m (tokR l).1 ∧ fmtR m = (joinF none (tokR l).1, 0) := by
  have e0 : tokR l = lexF (l.length + 1) (l.drop 0) 0 := by rw [tokR, if_neg (by omega), List.drop_zero]
  rw [e0] at hc ⊢
  obtain ⟨hg, hl⟩ := lexF_good l (l.length + 1) 0 (Nat.zero_le _) hc
  generalize (lexF (l.length + 1) (l.drop 0) 0).1 = ts at *
  have hlen := hl none
  have hall : ∀ (ts : List Tok) (p : Option Int), goodTs ts → (joinF p ts).length ≤ 65536 → ts.all fmtB = true := by
    intro ts
    induction ts with
    | nil => intro p _ _; rfl
    | cons t r ih =>
      intro p hg hl
      rw [joinF, List.length_append, List.length_append] at hl
      rw [List.all_cons, good_fmt (hg t (by simp)) (by omega), ih (some t.k) (fun x hx => hg x (by simp [hx])) (by omega)]; rfl
  have h1 := hall ts none hg (by omega)
  have e1 : fmtR ts = (joinF none ts, 0) := by rw [fmtR, if_pos h1]
  obtain ⟨m, em, hm⟩ := lexF_join ts none 0 ((joinF none ts).length + 1) hg (by have := joinF_len ts none hg; omega)
  refine ⟨e1, by omega, m, ?_, hm, ?_⟩
  · rw [tokR, if_neg (by omega), em]
  · rw [fmtR, all_same m ts hm, if_pos h1, joinF_same m ts none hm]
end Go.Proofs.YtjeifmjcgemlgaaGreatDoor
/- What the lexer's small functions compute: isLower, isDigit, digitsAt, nameLength, isDateForm, hasDecimals. -/
namespace Go.Proofs.YtjeifmjcgemlgaaGreatDoor
open Go.RowKit

theorem lead_step {p : UInt8 → Bool} {s : ByteArray} {i n k : Nat} (hi : i < s.size) (hp : p (s[i]'hi) = true) (h : n = k + lead_of p ((L s).drop i)) : n = k + 1 + lead_of p ((L s).drop (i + 1)) := by
  rw [h, L_drop s i hi, lead_of, if_pos hp]; omega
theorem lead_stop {p : UInt8 → Bool} {s : ByteArray} {i n k : Nat} (hi : i < s.size) (hp : p (s[i]'hi) = false) (h : n = k + lead_of p ((L s).drop i)) : n = k := by
  rw [h, L_drop s i hi, lead_of, hp]; rfl
theorem lead_out {p : UInt8 → Bool} {s : ByteArray} {i n k : Nat} (hi : ¬ i < s.size) (h : n = k + lead_of p ((L s).drop i)) : n = k := by
  rw [h, List.drop_of_length_le (by rw [L_length]; omega)]; rfl

theorem wordB_cases (c : UInt8) : (lowB c = true ∧ wordB c = true) ∨ (lowB c = false ∧ isDig c = true ∧ wordB c = true) ∨ (lowB c = false ∧ isDig c = false ∧ ((c.toNat : Int) == 95) = true ∧ wordB c = true) ∨ (lowB c = false ∧ isDig c = false ∧ ((c.toNat : Int) == 95) = false ∧ wordB c = false) := by
  have e : ((c.toNat : Int) == 95) = decide (c.toNat = 95) := by
    rw [Bool.eq_iff_iff, beq_iff_eq, decide_eq_true_eq]; omega
  unfold wordB
  rw [e]
  cases lowB c <;> cases isDig c <;> cases decide (c.toNat = 95) <;> simp

theorem digB_of_lead {l : List UInt8} {q : Nat} (h : q ≤ lead_of isDig l) : digB (l.take q) = true := by
  have := lead_of_all (p := isDig) (l := l)
  unfold digB
  rw [List.all_eq_true] at this ⊢
  intro x hx
  refine this x ?_
  have e : l.take q = (l.take (lead_of isDig l)).take q := by rw [List.take_take, Nat.min_eq_left h]
  rw [e] at hx
  exact List.mem_of_mem_take hx
theorem lead_ge_of {l : List UInt8} {q : Nat} (hq : q ≤ l.length) (h : digB (l.take q) = true) : q ≤ lead_of isDig l := by
  rcases Nat.lt_or_ge (lead_of isDig l) q with hlt | hge
  · exfalso
    rcases lead_of_end isDig l with he | ⟨c, he, hc⟩
    · rw [List.getElem?_eq_none_iff] at he; omega
    · have := all_at (p := isDig) h (by rw [List.getElem?_take_of_lt hlt]; exact he)
      rw [this] at hc; cases hc
  · exact hge
theorem lead_eq_of {l : List UInt8} {q : Nat} {c : UInt8} (hg : l[q]? = some c) (hc : isDig c = false) (h : digB (l.take q) = true) : lead_of isDig l = q := by
  have h1 := lead_ge_of (Nat.le_of_lt (get_lt hg)) h
  rcases Nat.lt_or_ge q (lead_of isDig l) with hlt | hge
  · obtain ⟨d, hd, hp⟩ := lead_of_in hlt
    rw [hg] at hd
    have : c = d := Option.some.inj hd
    rw [this, hp] at hc; cases hc
  · omega
theorem dated_iff (l : List UInt8) : datedB l = true ↔ lead_of isDig l = 4 ∧ lead_of isDig (l.drop 5) = 2 ∧ 2 ≤ lead_of isDig (l.drop 8) ∧ l[4]? = some 45 ∧ l[7]? = some 45 := by
  simp only [datedB, Bool.and_eq_true, decide_eq_true_eq, beq_iff_eq]
  constructor
  · rintro ⟨hl, h1, h2, h3, h4, h5⟩
    refine ⟨lead_eq_of h2 (by decide) h1, lead_eq_of (c := 45) (by rw [List.getElem?_drop]; exact h4) (by decide) h3, lead_ge_of (by rw [List.length_drop]; omega) h5, h2, h4⟩
  · rintro ⟨h1, h2, h3, h4, h5⟩
    have := lead_of_le isDig (l.drop 8)
    rw [List.length_drop] at this
    exact ⟨by omega, digB_of_lead (by omega), h4, digB_of_lead (by omega), h5, digB_of_lead h3⟩
theorem some_45 (c : UInt8) : (some c = some (45 : UInt8)) ↔ c.toNat = 45 := by
  rw [Option.some.injEq, ← UInt8.toNat_inj]; rfl

theorem prefix_one (l : List UInt8) (c : UInt8) : Lib.hasPrefix l [c] = (l.head? == some c) := by
  cases l with
  | nil => rfl
  | cons d r =>
    show (c == d && true) = (some d == some c)
    rw [Bool.and_true, Bool.eq_iff_iff]
    rw [beq_iff_eq, beq_iff_eq, Option.some.injEq]
    exact ⟨Eq.symm, Eq.symm⟩
def decB (l : List UInt8) (q : Nat) : Bool := l.head? == some 46 && lead_of isDig (l.drop 1) == q
end Go.Proofs.YtjeifmjcgemlgaaGreatDoor
/- What the lexer's number and scanName compute. -/
namespace Go.Proofs.YtjeifmjcgemlgaaGreatDoor
open Go.RowKit

theorem ext_take (s : ByteArray) (k : Nat) : L (s.extract 0 k) = (L s).take k := by rw [L_extract]; simp
theorem ext_drop (s : ByteArray) (k : Nat) : L (s.extract k s.size) = (L s).drop k := by
  rw [L_extract]
  exact List.take_of_length_le (by rw [List.length_drop, L_length]; omega)

/-! the number of a token -/
theorem fin_pos (l : List UInt8) : finR false (some (acc l 0 false)) = if BB < val l 0 then ((0, 3) : Int × Int) else (((val l 0 : Nat) : Int), 0) := by
  have h := acc_zero l
  generalize acc l 0 false = t at *
  obtain ⟨v, g⟩ := t
  dsimp only at h
  rcases h with ⟨rfl, rfl, h3⟩ | ⟨rfl, h2⟩
  · rw [if_neg (by omega)]; rfl
  · rw [if_pos h2]; rfl
theorem negB_dig {c : UInt8} {r : List UInt8} (h : isDig c = true) : negB (c :: r) = false ∧ bodyL (c :: r) = c :: r := by
  have h' := isDig_iff.1 h
  have hn : negB (c :: r) = false := by
    rw [negB, List.head?_cons, beq_eq_false_iff_ne]
    intro e
    have : c = 45 := Option.some.inj e
    subst this; revert h'; decide
  exact ⟨hn, by rw [bodyL, hn]; rfl⟩
/-- the whole digits: no superfluous zero ahead -/
theorem parP_int {c : UInt8} {r : List UInt8} (hd : (c :: r).all isDig = true) (hz : ¬ (1 < (c :: r).length ∧ c = 48)) :
    parP (c :: r) 0 = if BB < val (c :: r) 0 then ((0, 3) : Int × Int) else (((val (c :: r) 0 : Nat) : Int), 0) := by
  have h := negB_dig (r := r) (by simpa using (List.all_eq_true.1 hd c (by simp)))
  unfold parP
  rw [h.1, h.2]
  unfold bodyP
  have hw : wholeI (c :: r) 0 = ((c :: r).length : Nat) := by rw [wholeI, if_neg (by omega)]
  have hb : badL (c :: r) ((c :: r).length : Nat) = false := by
    unfold badL
    rw [Bool.or_eq_false_iff, Bool.and_eq_false_iff, decide_eq_false_iff_not, decide_eq_false_iff_not, beq_eq_false_iff_ne]
    refine ⟨by simp only [List.length_cons]; omega, ?_⟩
    by_cases h1 : 1 < (c :: r).length
    · right; intro e; exact hz ⟨h1, Option.some.inj e⟩
    · left; omega
  rw [hw, hb, run_all _ _ 0 false (.inr (Int.le_refl _)), hd, if_neg Bool.false_ne_true, if_pos rfl]
  exact fin_pos _
theorem parP_point {c : UInt8} {r b : List UInt8} {q : Nat} (hq : 1 ≤ q) (hd : (c :: r).all isDig = true) (hz : ¬ (1 < (c :: r).length ∧ c = 48)) (hb : b.all isDig = true) (hl : b.length = q) :
    parP ((c :: r) ++ 46 :: b) q = if BB < val ((c :: r) ++ b) 0 then ((0, 3) : Int × Int) else (((val ((c :: r) ++ b) 0 : Nat) : Int), 0) := by
  have h := negB_dig (r := r ++ 46 :: b) (by simpa using (List.all_eq_true.1 hd c (by simp)))
  unfold parP
  rw [List.cons_append, h.1, h.2, ← List.cons_append]
  unfold bodyP
  have hw : wholeI ((c :: r) ++ 46 :: b) q = ((c :: r).length : Nat) := by
    rw [wholeI, if_pos (by omega), List.length_append, List.length_cons (a := 46)]; omega
  have hbd : badL ((c :: r) ++ 46 :: b) ((c :: r).length : Nat) = false := by
    unfold badL
    rw [Bool.or_eq_false_iff, Bool.and_eq_false_iff, decide_eq_false_iff_not, decide_eq_false_iff_not, beq_eq_false_iff_ne]
    refine ⟨by simp only [List.length_cons]; omega, ?_⟩
    by_cases h1 : 1 < (c :: r).length
    · right; intro e; exact hz ⟨h1, Option.some.inj e⟩
    · left; omega
  rw [hw, hbd, run_at, hd, hb, if_neg Bool.false_ne_true, if_pos (by decide)]
  exact fin_pos _
/-- what package lexer's number answers -/
def pN (k : Int) (t : List UInt8) : Int × Int := if k = 5 then dparS (bs t) else if k = 3 then parP t 2 else if k = 4 then parP (t.take (t.length - 1)) 4 else parP t 0
def limK (k : Int) : Int := if k = 5 then 109572 else mostK k
def pL (k : Int) (t : List UInt8) : Int × Int := if (pN k t).2 = 0 ∧ limK k < (pN k t).1 then ((pN k t).1, 3) else pN k t
theorem filter_all {l : List UInt8} (h : l.all isDig = true) : l.filter isDig = l := by
  rw [List.filter_eq_self]; exact List.all_eq_true.1 h
theorem lim_val {k : Int} {t : List UInt8} {v : Nat} (hk : k ≠ 5) (hv : digsN t = v) (hp : pN k t = if BB < v then (0, 3) else ((v : Int), 0)) :
    ((pL k t).2 = 0 ∧ lxVal k t = pL k t) ∨ ((pL k t).2 ≠ 0 ∧ (lxVal k t).2 = 3) := by
  have hlim : limK k = mostK k := by rw [limK, if_neg hk]
  have hm : mostK k ≤ 1000000000000000 := by
    unfold mostK
    split
    · omega
    · split <;> omega
  have hx : lxVal k t = if mostK k < (v : Int) then (0, 3) else ((v : Int), 0) := by
    unfold lxVal; rw [if_neg hk, hv]
  unfold pL
  rw [hp, hx, hlim]
  by_cases h : BB < v
  · rw [if_pos h]
    right
    refine ⟨by simp, ?_⟩
    rw [if_pos]
    unfold BB at h; omega
  · rw [if_neg h]
    by_cases h2 : mostK k < (v : Int)
    · right; simp [h2]
    · left; simp [h2]
theorem digsN_app {a b : List UInt8} (ha : a.all isDig = true) (hb : b.all isDig = true) (c : UInt8) (hc : isDig c = false) : digsN (a ++ c :: b) = val (a ++ b) 0 := by
  unfold digsN
  rw [List.filter_append, filter_all ha, List.filter_cons_of_neg (by rw [hc]; decide), filter_all hb]
/-- at the head of a text: the parser's answer is the token's number -/
theorem pL_lx {c : UInt8} {r : List UInt8} (hc : isDig c = true) (hz : zeroB (c :: r) = false) :
    ((pL (lxKL (c :: r)).1 ((c :: r).take (lxKL (c :: r)).2)).2 = 0 ∧ lxVal (lxKL (c :: r)).1 ((c :: r).take (lxKL (c :: r)).2) = pL (lxKL (c :: r)).1 ((c :: r).take (lxKL (c :: r)).2)) ∨
    ((pL (lxKL (c :: r)).1 ((c :: r).take (lxKL (c :: r)).2)).2 ≠ 0 ∧ (lxVal (lxKL (c :: r)).1 ((c :: r).take (lxKL (c :: r)).2)).2 ≠ 0) := by
  generalize hl : c :: r = l at *
  cases hd : datedB l
  · have hW := lead_of_all (p := isDig) (l := l)
    have hWl := lead_of_le isDig l
    have hW1 : 1 ≤ lead_of isDig l := by rw [← hl]; exact lead_of_pos hc
    have hz' : ¬ (1 < lead_of isDig l ∧ c = 48) := by
      rintro ⟨h1, h2⟩
      have h0 : l[0]? = some c := by rw [← hl]; rfl
      rw [zeroB, hd, h0, h2] at hz
      simp [h1] at hz
    generalize hw : lead_of isDig l = W at *
    have hWlen : (l.take W).length = W := by rw [List.length_take]; omega
    obtain ⟨V, rfl⟩ : ∃ V, W = V + 1 := ⟨W - 1, by omega⟩
    have htk : l.take (V + 1) = c :: r.take V := by rw [← hl]; rfl
    rw [htk] at hW hWlen
    have hz2 : ¬ (1 < (c :: r.take V).length ∧ c = 48) := by rw [hWlen]; exact hz'
    cases h2 : pointB l 2
    · cases h4 : rateB l
      · have e : lxKL l = (2, V + 1) := by unfold lxKL; rw [hd, h2, h4, hw]; rfl
        rw [e]
        dsimp only
        rw [htk]
        have := lim_val (k := 2) (t := c :: r.take V) (v := val (c :: r.take V) 0) (by decide) (by rw [digsN, filter_all hW]) (parP_int hW hz2)
        rcases this with h | ⟨h, h'⟩
        · exact .inl h
        · exact .inr ⟨h, by omega⟩
      · have e : lxKL l = (4, V + 1 + 6) := by unfold lxKL; rw [hd, h2, h4, hw]; rfl
        rw [e]
        dsimp only
        rw [rateB, Bool.and_eq_true, beq_iff_eq, pointB_iff, hw] at h4
        obtain ⟨⟨p1, p2⟩, p3⟩ := h4
        have hlen := get_lt p3
        have hF := lead_of_all (p := isDig) (l := l.drop (V + 1 + 1))
        rw [p2] at hF
        have hFl : ((l.drop (V + 1 + 1)).take 4).length = 4 := by rw [List.length_take, List.length_drop]; omega
        have hsplit : l.take (V + 1 + 6) = (c :: r.take V) ++ 46 :: ((l.drop (V + 1 + 1)).take 4 ++ [37]) := by
          rw [← htk, show V + 1 + 6 = (V + 1) + (1 + (4 + 1)) from rfl, List.take_add, List.take_add (i := 1), List.drop_drop, List.take_add_one (i := 4)]
          rw [show (l.drop (V + 1)).take 1 = [46] by rw [List.take_one, List.head?_drop, p1]; rfl]
          rw [List.getElem?_drop, show V + 1 + 1 + 4 = V + 1 + 5 from by omega, p3]; rfl
        have hdl : (l.take (V + 1 + 6)).take ((l.take (V + 1 + 6)).length - 1) = (c :: r.take V) ++ 46 :: (l.drop (V + 1 + 1)).take 4 := by
          rw [hsplit]
          have : (c :: r.take V) ++ 46 :: ((l.drop (V + 1 + 1)).take 4 ++ [37]) = ((c :: r.take V) ++ 46 :: (l.drop (V + 1 + 1)).take 4) ++ [37] := by simp
          rw [this, List.length_append, List.length_singleton, Nat.add_sub_cancel, List.take_left' rfl]
        have hdg : digsN (l.take (V + 1 + 6)) = val ((c :: r.take V) ++ (l.drop (V + 1 + 1)).take 4) 0 := by
          rw [hsplit]
          unfold digsN
          rw [List.filter_append, filter_all hW, List.filter_cons_of_neg (by decide), List.filter_append, filter_all hF, List.filter_cons_of_neg (by decide)]
          simp
        have := lim_val (k := 4) (t := l.take (V + 1 + 6)) (v := val ((c :: r.take V) ++ (l.drop (V + 1 + 1)).take 4) 0) (by decide) hdg (by
          show parP ((l.take (V + 1 + 6)).take ((l.take (V + 1 + 6)).length - 1)) 4 = _
          rw [hdl]
          exact parP_point (q := 4) (by decide) hW hz2 hF hFl)
        rcases this with h | ⟨h, h'⟩
        · exact .inl h
        · exact .inr ⟨h, by omega⟩
    · have e : lxKL l = (3, V + 1 + 3) := by unfold lxKL; rw [hd, h2, hw]; rfl
      rw [e]
      dsimp only
      rw [pointB_iff, hw] at h2
      obtain ⟨p1, p2⟩ := h2
      have hF := lead_of_all (p := isDig) (l := l.drop (V + 1 + 1))
      have hF2 := lead_of_le isDig (l.drop (V + 1 + 1))
      rw [p2, List.length_drop] at hF2
      rw [p2] at hF
      have hFl : ((l.drop (V + 1 + 1)).take 2).length = 2 := by rw [List.length_take, List.length_drop]; omega
      have hsplit : l.take (V + 1 + 3) = (c :: r.take V) ++ 46 :: (l.drop (V + 1 + 1)).take 2 := by
        rw [← htk, show V + 1 + 3 = (V + 1) + (1 + 2) from rfl, List.take_add, List.take_add (i := 1), List.drop_drop]
        rw [show (l.drop (V + 1)).take 1 = [46] by rw [List.take_one, List.head?_drop, p1]; rfl]
        rfl
      rw [hsplit]
      have := lim_val (k := 3) (t := (c :: r.take V) ++ 46 :: (l.drop (V + 1 + 1)).take 2) (v := val ((c :: r.take V) ++ (l.drop (V + 1 + 1)).take 2) 0) (by decide) (digsN_app hW hF 46 dig_not46) (parP_point (q := 2) (by decide) hW hz2 hF hFl)
      rcases this with h | ⟨h, h'⟩
      · exact .inl h
      · exact .inr ⟨h, by omega⟩
  · have e : lxKL l = (5, 10) := by unfold lxKL; rw [hd]; rfl
    rw [e]
    dsimp only
    have e1 : pN 5 (l.take 10) = dparS (bs (l.take 10)) := rfl
    have e2 : lxVal 5 (l.take 10) = if (dparS (bs (l.take 10))).2 = 0 then dparS (bs (l.take 10)) else (0, 3) := rfl
    rw [pL, e1, e2]
    have hb : (dparS (bs (l.take 10))).2 = 0 → (dparS (bs (l.take 10))).1 ≤ 109572 := by
      unfold dparS
      split
      · unfold fromS
        split
        · rename_i h; intro _; exact (dayNo_bd h).2
        · intro h; exact absurd h (by decide)
      · intro h; exact absurd h (by decide)
    have hl5 : limK 5 = 109572 := rfl
    rw [hl5]
    generalize dparS (bs (l.take 10)) = p at *
    by_cases h : p.2 = 0
    · have := hb h
      rw [if_neg (by omega), if_pos h]
      exact .inl ⟨h, rfl⟩
    · rw [if_neg (fun x => h x.1), if_neg h]
      exact .inr ⟨h, by decide⟩

set_option maxRecDepth 100000 in
theorem pI_any (s : ByteArray) (hs : s.size ≤ 1000000) (w : World) :
    Calls Tryz.prog 88 #[.string s] w fun e w' => e = .returned (.tuple #[.int .i64 (parP (L s) 0).1, .int .i64 (parP (L s) 0).2]) ∧ Kept w w' := by
  have HP := Lib.hid (fun w => parse_num s 0 hs (by omega) (by omega) w)
  generalize parP (L s) 0 = r at *
  go_enter Tryz.func88, Tryz.ntmps88
  go_wp2_with (go_at_call 106; refine (HP.out _).mono ?_; rintro e w' ⟨rfl, hk⟩)
  go_ret2
  exact ⟨rfl, hk⟩
set_option maxRecDepth 100000 in
theorem pF_any (s : ByteArray) (p : Int) (p0 : 0 ≤ p) (p9 : p ≤ 9) (hs : s.size ≤ 1000000) (w : World) :
    Calls Tryz.prog 89 #[.string s, .int .i64 p] w fun e w' => e = .returned (.tuple #[.int .i64 (parP (L s) p).1, .int .i64 (parP (L s) p).2]) ∧ Kept w w' := by
  have hq : max 0 (min p 9) = p := by omega
  have HQ := Lib.hid (show ∀ w, Calls Tryz.prog 84 #[.int .i64 p] w fun e w' => e = .returned (.int .i64 p) ∧ w = w' from fun w => by have h := clamp_any p w; rwa [hq] at h)
  have HP := Lib.hid (fun w => parse_num s p hs p0 p9 w)
  clear hq
  generalize parP (L s) p = r at *
  go_enter Tryz.func89, Tryz.ntmps89
  go_wp2_with (first
    | (go_at_call 84; refine (HQ.out _).mono ?_; rintro e w' ⟨rfl, rfl⟩)
    | (go_at_call 106; refine (HP.out _).mono ?_; rintro e w' ⟨rfl, hk⟩))
  go_ret2
  exact ⟨rfl, hk⟩

theorem pL_cases (k : Int) (t : List UInt8) (n c : Int) (h : pN k t = (n, c)) : (c ≠ 0 ∧ pL k t = (n, c)) ∨ (c = 0 ∧ limK k < n ∧ pL k t = (n, 3)) ∨ (c = 0 ∧ n ≤ limK k ∧ pL k t = (n, 0)) := by
  unfold pL
  rw [h]
  by_cases hc : c = 0
  · subst hc
    by_cases hn : limK k < n
    · exact .inr (.inl ⟨rfl, hn, by simp [hn]⟩)
    · exact .inr (.inr ⟨rfl, by omega, by simp [hn]⟩)
  · exact .inl ⟨hc, by simp [hc]⟩
def srV (r : SR) : Value := .tuple #[.agg #[.int .i64 r.k, .string (bs r.t), .int .i64 r.n, .int .i64 0], .int .i64 r.len, .int .i64 r.code]
end Go.Proofs.YtjeifmjcgemlgaaGreatDoor
/- What IsIdentifier of the reference of chapter 8 computes. -/
namespace Go.Proofs.YtjeifmjcgemlgaaGreatDoor
open Go.RowKit

theorem rlower_any (c : UInt8) (w : World) : Calls Tryz.prog 64 #[.int .u8 c.toNat] w fun e w' => e = .returned (.bool (lowB c)) ∧ w = w' := by
  by_cases h : 97 ≤ c.toNat
  · have HR := Lib.hid (show lowB c = decide ((c.toNat : Int) ≤ 122) by simp [lowB, h]; omega)
    go_enter Tryz.func64, Tryz.ntmps64
    go_wp2_with fail
    go_ret
    exact ⟨ret_bool HR.out.symm, rfl⟩
  · have HR := Lib.hid (show lowB c = false by simp [lowB, h])
    go_enter Tryz.func64, Tryz.ntmps64
    go_wp2_with fail
    go_ret
    exact ⟨ret_bool HR.out.symm, rfl⟩
theorem rdigit_any (c : UInt8) (w : World) : Calls Tryz.prog 91 #[.int .u8 c.toNat] w fun e w' => e = .returned (.bool (isDig c)) ∧ w = w' := by
  by_cases h : 48 ≤ c.toNat
  · have HR := Lib.hid (show isDig c = decide ((c.toNat : Int) ≤ 57) by simp [isDig, h]; omega)
    go_enter Tryz.func91, Tryz.ntmps91
    go_wp2_with fail
    go_ret
    exact ⟨ret_bool HR.out.symm, rfl⟩
  · have HR := Lib.hid (show isDig c = false by simp [isDig, h])
    go_enter Tryz.func91, Tryz.ntmps91
    go_wp2_with fail
    go_ret
    exact ⟨ret_bool HR.out.symm, rfl⟩
theorem rword_any (c : UInt8) (w : World) : Calls Tryz.prog 65 #[.int .u8 c.toNat] w fun e w' => e = .returned (.bool (wordB c)) ∧ w = w' := by
  rcases wordB_cases c with ⟨h1, h2⟩ | ⟨h0, h1, h2⟩ | ⟨h0, h1, h3, h2⟩ | ⟨h0, h1, h3, h2⟩
  all_goals
    have HR := Lib.hid h2
    clear h2
    go_enter Tryz.func65, Tryz.ntmps65
    go_wp2_with (first | (go_at_call 91; refine (rdigit_any _ _).mono ?_; rintro e w' ⟨rfl, rfl⟩) | (go_at_call 64; refine (rlower_any _ _).mono ?_; rintro e w' ⟨rfl, rfl⟩))
    go_ret
    exact ⟨ret_bool HR.out.symm, rfl⟩
theorem rglue_cases (c : UInt8) :
    (gluedB c = true ∧ wordB c = true) ∨ (gluedB c = true ∧ wordB c = false ∧ 65 ≤ c.toNat ∧ c.toNat ≤ 90) ∨
    (gluedB c = ((c.toNat : Int) == 46) ∧ wordB c = false ∧ c.toNat < 65) ∨ (gluedB c = ((c.toNat : Int) == 46) ∧ wordB c = false ∧ 65 ≤ c.toNat ∧ 90 < c.toNat) := by
  have e : ((c.toNat : Int) == 46) = decide (c.toNat = 46) := by
    rw [Bool.eq_iff_iff, beq_iff_eq, decide_eq_true_eq]; omega
  rw [e]
  unfold gluedB
  cases hw : wordB c
  · by_cases h65 : 65 ≤ c.toNat
    · by_cases h90 : c.toNat ≤ 90
      · simp [h65, h90]
      · simp [h65, h90]; omega
    · simp [h65]; omega
  · simp


def resW : List (List UInt8) := [[105, 102],
  [116, 104, 101, 110],
  [101, 108, 115, 101],
  [111, 114],
  [97, 110, 100],
  [110, 111, 116],
  [116, 114, 117, 101],
  [102, 97, 108, 115, 101],
  [116, 111, 100, 97, 121],
  [115, 104, 97, 114, 101],
  [100, 105, 118],
  [114, 111, 117, 110, 100],
  [109, 105, 110],
  [109, 97, 120],
  [112, 108, 117, 115],
  [109, 111, 110, 116, 104, 115],
  [100, 97, 121, 115],
  [121, 101, 97, 114, 115],
  [121, 101, 97, 114],
  [109, 111, 110, 116, 104],
  [116, 97, 98],
  [98, 97, 110, 100],
  [99, 111, 117, 110, 116],
  [115, 117, 109],
  [97, 108, 108],
  [97, 110, 121],
  [109, 111, 115, 116],
  [101, 110, 117, 109],
  [116, 97, 98, 108, 101],
  [114, 111, 119],
  [115, 99, 111, 112, 101],
  [109, 101, 109, 98, 101, 114, 115],
  [105, 110, 112, 117, 116],
  [100, 101, 102],
  [114, 117, 108, 101],
  [111, 102],
  [111, 118, 101, 114],
  [112, 114, 105, 111],
  [102, 114, 111, 109],
  [116, 111],
  [101, 110, 100],
  [119, 104, 101, 110],
  [105, 115],
  [115, 114, 99],
  [98, 111, 111, 108],
  [105, 110, 116],
  [109, 111, 110, 101, 121],
  [114, 97, 116, 101],
  [100, 97, 116, 101],
  [100, 111, 119, 110],
  [117, 112],
  [122, 101, 114, 111],
  [97, 119, 97, 121],
  [104, 97, 108, 102],
  [101, 118, 101, 110]]
def resB (l : List UInt8) : Bool := resW.contains l
theorem resB_or (s : ByteArray) : resB (L s) = ((s.toList == [105, 102]) || ((s.toList == [116, 104, 101, 110]) || ((s.toList == [101, 108, 115, 101]) || ((s.toList == [111, 114]) || ((s.toList == [97, 110, 100]) || ((s.toList == [110, 111, 116]) || ((s.toList == [116, 114, 117, 101]) || ((s.toList == [102, 97, 108, 115, 101]) || ((s.toList == [116, 111, 100, 97, 121]) || ((s.toList == [115, 104, 97, 114, 101]) || ((s.toList == [100, 105, 118]) || ((s.toList == [114, 111, 117, 110, 100]) || ((s.toList == [109, 105, 110]) || ((s.toList == [109, 97, 120]) || ((s.toList == [112, 108, 117, 115]) || ((s.toList == [109, 111, 110, 116, 104, 115]) || ((s.toList == [100, 97, 121, 115]) || ((s.toList == [121, 101, 97, 114, 115]) || ((s.toList == [121, 101, 97, 114]) || ((s.toList == [109, 111, 110, 116, 104]) || ((s.toList == [116, 97, 98]) || ((s.toList == [98, 97, 110, 100]) || ((s.toList == [99, 111, 117, 110, 116]) || ((s.toList == [115, 117, 109]) || ((s.toList == [97, 108, 108]) || ((s.toList == [97, 110, 121]) || ((s.toList == [109, 111, 115, 116]) || ((s.toList == [101, 110, 117, 109]) || ((s.toList == [116, 97, 98, 108, 101]) || ((s.toList == [114, 111, 119]) || ((s.toList == [115, 99, 111, 112, 101]) || ((s.toList == [109, 101, 109, 98, 101, 114, 115]) || ((s.toList == [105, 110, 112, 117, 116]) || ((s.toList == [100, 101, 102]) || ((s.toList == [114, 117, 108, 101]) || ((s.toList == [111, 102]) || ((s.toList == [111, 118, 101, 114]) || ((s.toList == [112, 114, 105, 111]) || ((s.toList == [102, 114, 111, 109]) || ((s.toList == [116, 111]) || ((s.toList == [101, 110, 100]) || ((s.toList == [119, 104, 101, 110]) || ((s.toList == [105, 115]) || ((s.toList == [115, 114, 99]) || ((s.toList == [98, 111, 111, 108]) || ((s.toList == [105, 110, 116]) || ((s.toList == [109, 111, 110, 101, 121]) || ((s.toList == [114, 97, 116, 101]) || ((s.toList == [100, 97, 116, 101]) || ((s.toList == [100, 111, 119, 110]) || ((s.toList == [117, 112]) || ((s.toList == [122, 101, 114, 111]) || ((s.toList == [97, 119, 97, 121]) || ((s.toList == [104, 97, 108, 102]) || ((s.toList == [101, 118, 101, 110])))))))))))))))))))))))))))))))))))))))))))))))))))))))) := by
  rw [toList_L]
  simp only [resB, resW, List.contains_cons, List.contains_nil, Bool.or_false]
def lowH (l : List UInt8) : Bool := match l.head? with
  | some c => lowB c
  | none => false
def idB (l : List UInt8) : Bool := decide (0 < l.length) && (decide (l.length ≤ 16) && (lowH l && (l.all wordB && !resB l)))
theorem lead_all (p : UInt8 → Bool) (l : List UInt8) : lead_of p l = l.length ↔ l.all p = true := by
  constructor
  · intro h
    have := lead_of_all (p := p) (l := l)
    rwa [h, List.take_length] at this
  · intro h
    have := lead_of_app (p := p) (a := l) (b := []) h (.inl rfl)
    simpa using this
theorem resW_len : resW.length = 55 := rfl
def resS : List ByteArray := resW.map bs
theorem resS_len : resS.length = 55 := rfl
theorem strs_new (w : World) (T : TypeId) (xs : List ByteArray) (c : Nat) : Strs (w.alloc (.cells (xs.map Value.string).toArray T)) (.slice (some ⟨w.heap.size, 0, none⟩) xs.length c) xs := by
  refine ⟨_, c, rfl, fun _ => ⟨w.heap.size, 0, rfl, by simp, fun j hj => ?_⟩⟩
  rw [World.cell?_alloc_at _ _ _ _ rfl]
  simp [List.getElem?_eq_getElem hj]
set_option maxRecDepth 100000 in
set_option maxHeartbeats 4000000 in
theorem rreserved_any (w : World) :
    Calls Tryz.prog 66 #[] w fun e w' => ∃ v, e = .returned v ∧ Strs w' v resS ∧ Kept w w' := by
  go_enter Tryz.func66, Tryz.ntmps66
  go_wp2_with fail
  go_ret
  exact ⟨_, rfl, strs_new w _ resS 55, (Kept.refl _).alloc _⟩
theorem neqH (X Y : ByteArray) : (X.toList == Y.toList) = decide (X = Y) := by
  rw [toList_L, toList_L]
  by_cases h : X = Y
  · rw [h]; simp
  · have : L X ≠ L Y := fun e => h (L_inj.1 e)
    simp [h, this]
theorem resB_mem (s : ByteArray) : resB (L s) = true ↔ ∃ j, ∃ h : j < resS.length, resS[j] = s := by
  unfold resB resS
  rw [List.contains_iff_mem]
  constructor
  · intro h
    obtain ⟨j, hj, e⟩ := List.getElem_of_mem h
    refine ⟨j, by simpa using hj, ?_⟩
    rw [List.getElem_map, e, bs_L]
  · rintro ⟨j, hj, e⟩
    rw [List.getElem_map] at e
    rw [← e, L_bs]
    exact List.getElem_mem _
set_option maxRecDepth 100000 in
set_option maxHeartbeats 4000000 in
theorem risId_any (s : ByteArray) (w : World) :
    Calls Tryz.prog 46 #[.string s] w fun e w' => e = .returned (.bool (idB (L s))) ∧ Kept w w' := by
  have hid : idB (L s) = (decide (0 < s.size) && (decide (s.size ≤ 16) && (lowH (L s) && ((L s).all wordB && !resB (L s))))) := rfl
  by_cases h0 : 0 < s.size
  · have hlow : lowH (L s) = lowB (s[0]'h0) := by
      unfold lowH
      rw [List.head?_eq_getElem?, L_get s 0 h0]
    have h0b : ((s.size : Int) == 0) = false := by rw [beq_eq_false_iff_ne]; omega
    have h0i : (0 : Int) < s.size := by omega
    rw [hlow, decide_eq_true h0] at hid
    by_cases h16 : s.size ≤ 16
    · rw [decide_eq_true h16] at hid
      have h16i : ¬ (16 < (s.size : Int)) := by omega
      cases hl : lowB (s[0]'h0)
      · have HR := Lib.hid (show idB (L s) = false by rw [hid, hl]; rfl)
        clear hid hlow
        go_enter Tryz.func46, Tryz.ntmps46
        go_wp2_with (go_at_call 64; refine (rlower_any _ _).mono ?_; rintro e w' ⟨rfl, rfl⟩)
        go_ret
        exact ⟨ret_bool HR.out.symm, Kept.refl _⟩
      · rw [hl] at hid
        have HID := Lib.hid (show idB (L s) = ((L s).all wordB && !resB (L s)) by rw [hid]; rfl)
        have HM := Lib.hid (resB_mem s)
        clear hid hlow
        go_enter Tryz.func46, Tryz.ntmps46
        go_wp2_with (go_at_call 64; refine (rlower_any _ _).mono ?_; rintro e w' ⟨rfl, rfl⟩)
        go_loop [3] (fun x => ∃ k : Nat, x = .int .i64 (k : Int) ∧ k ≤ s.size ∧ ((L s).take k).all wordB = true) (fun x => s.size - (intOf x).toNat)
        case atStart => exact ⟨0, rfl, Nat.zero_le _, rfl⟩
        case round =>
          obtain ⟨k, rfl, hk, hall⟩ := hrel
          by_cases hlt : k < s.size
          · have hki : (k : Int) < s.size := by omega
            cases hw : wordB (s[k]'hlt)
            · have HR := Lib.hid (show idB (L s) = false by
                have : (L s).all wordB = false := by rw [← List.take_append_drop k (L s), List.all_append, L_drop s k hlt, List.all_cons, hw]; simp
                rw [HID.out, this]; rfl)
              clear hall
              go_wp2_with (go_at_call 65; refine (rword_any _ _).mono ?_; rintro e w' ⟨rfl, rfl⟩)
              go_ret
              exact ⟨ret_bool HR.out.symm, Kept.refl _⟩
            · have HA := Lib.hid (show ((L s).take (k + 1)).all wordB = true by rw [L_take s k hlt, List.all_append, hall]; simp [hw])
              clear hall
              go_wp2_with (go_at_call 65; refine (rword_any _ _).mono ?_; rintro e w' ⟨rfl, rfl⟩)
              go_round
              case rel => exact ⟨k + 1, by go_num, hlt, HA.out⟩
              case measure => simp [intOf]; omega
          · have hki : ¬ ((k : Int) < s.size) := by omega
            rw [L_take_all s k hlt] at hall
            have HB := Lib.hid (show idB (L s) = !resB (L s) by rw [HID.out, hall]; rfl)
            clear hall
            go_wp2_with (go_at_call 66; refine (rreserved_any _).mono ?_; rintro e w5 ⟨v, rfl, hS, k5⟩)
            obtain ⟨A, cap, rfl, hA⟩ := hS
            rw [resS_len] at hA ⊢
            obtain ⟨b, off, rfl, hb, hc⟩ := hA (by decide)
            clear hA
            go_loop [5] (fun x => ∃ j : Nat, x = .int .i64 (j : Int) ∧ j ≤ 55 ∧ ∀ q, q < j → resS[q]? ≠ some s) (fun x => 55 - (intOf x).toNat)
            case atStart => exact ⟨0, rfl, by decide, fun q hq => absurd hq (by omega)⟩
            case round =>
              obtain ⟨j, rfl, hj, hno⟩ := hrel
              by_cases hj55 : j < 55
              · have hji : (j : Int) < 55 := by omega
                have hcell := hc j hj55
                have hgj : resS[j]? = some (resS[j]'(by rw [resS_len]; exact hj55)) := List.getElem?_eq_getElem _
                rw [hgj] at hcell
                have HNX := Lib.hid (show resS[j]'(by rw [resS_len]; exact hj55) ≠ s → ∀ q, q < j + 1 → resS[q]? ≠ some s from fun h q hq => by
                  by_cases e : q = j
                  · rw [e, hgj]; intro e2; exact h (Option.some.inj e2)
                  · exact hno q (by omega))
                have HYS := Lib.hid (show resS[j]'(by rw [resS_len]; exact hj55) = s → idB (L s) = false from fun h => by
                  rw [HB.out, HM.out.2 ⟨j, by rw [resS_len]; exact hj55, h⟩]; rfl)
                clear hno hgj hc
                simp only [Option.getD_some] at hcell
                generalize resS[j]'(by rw [resS_len]; exact hj55) = X at *
                cases hd : decide (X = s)
                · have hd' : X ≠ s := by simpa using hd
                  have HR := Lib.hid (HNX.out hd')
                  rw [← neqH] at hd
                  clear hd'
                  go_wp2_with fail
                  go_round
                  case rel => exact ⟨j + 1, by go_num, hj55, HR.out⟩
                  case measure => simp [intOf]; omega
                · have hd' : X = s := by simpa using hd
                  have HR := Lib.hid (HYS.out hd')
                  rw [← neqH] at hd
                  clear hd'
                  go_wp2_with fail
                  go_ret
                  exact ⟨ret_bool HR.out.symm, k5⟩
              · have hji : ¬ ((j : Int) < 55) := by omega
                have HR := Lib.hid (show idB (L s) = true by
                  have : resB (L s) = false := by
                    rw [Bool.eq_false_iff]
                    intro e
                    obtain ⟨q, hq, e2⟩ := HM.out.1 e
                    rw [resS_len] at hq
                    exact hno q (by omega) (by rw [List.getElem?_eq_getElem (by rw [resS_len]; exact hq), e2])
                  rw [HB.out, this]; rfl)
                clear hno hc
                go_wp2_with fail
                go_ret
                exact ⟨ret_bool HR.out.symm, k5⟩
    · have h16i : 16 < (s.size : Int) := by omega
      have HR := Lib.hid (show idB (L s) = false by rw [hid, decide_eq_false h16]; rfl)
      clear hid hlow
      go_enter Tryz.func46, Tryz.ntmps46
      go_wp2_with fail
      go_ret
      exact ⟨ret_bool HR.out.symm, Kept.refl _⟩
  · have HR := Lib.hid (show idB (L s) = false by rw [hid, decide_eq_false h0]; rfl)
    have hz : ((s.size : Int) == 0) = true := by rw [beq_iff_eq]; omega
    clear hid
    go_enter Tryz.func46, Tryz.ntmps46
    go_wp2_with fail
    go_ret
    exact ⟨ret_bool HR.out.symm, Kept.refl _⟩
end Go.Proofs.YtjeifmjcgemlgaaGreatDoor
