/- The tokens of a text, as a function of its bytes. No program stands here. -/
import Derived.Test.YtdnjfpmngnkcfaaGreatDoorStr
import Derived.Test.YtdnjfpmngnkcfaaGreatDoorDateF
import Derived.Test.YtdnjfpmngnkcfaaGreatDoorParseEq
import Derived.Test.YtdnjfpmngnkcfaaGreatDoorBlks
import Derived.Test.YtdnjfpmngnkcfaaGreatDoorShelf
import Derived.Test.YtdnjfpmngnkcfaaGreatDoorParse
import Derived.Laws.Runes
import Derived.Deep.AppendLies
import Derived.WalkMore
import Derived.ScopeJumps
import Derived.Deep.LoopGhost
import Derived.Lib.MapLaws
import Derived.Lib.OthersKept
import Derived.Deep.DeepCutAuto
import Derived.Test.YtdnjfpmngnkcfaaGreatDoorRecs
import Derived.Test.YtdnjfpmngnkcfaaGreatDoorStrs
namespace Go.Proofs.YtdnjfpmngnkcfaaGreatDoor

def lowB (c : UInt8) : Bool := decide (97 ≤ c.toNat) && decide (c.toNat ≤ 122)
def wordB (c : UInt8) : Bool := lowB c || (isDig c || decide (c.toNat = 95))
/-- what must not follow a number immediately -/
def gluedB (c : UInt8) : Bool := wordB c || (decide (65 ≤ c.toNat) && decide (c.toNat ≤ 90) || decide (c.toNat = 46))
/-- the leading bytes for which p holds: how many -/
def lead_of (p : UInt8 → Bool) : List UInt8 → Nat
  | [] => 0
  | c :: r => if p c then lead_of p r + 1 else 0
theorem lead_of_le (p : UInt8 → Bool) (l : List UInt8) : lead_of p l ≤ l.length := by
  induction l with
  | nil => exact Nat.le_refl _
  | cons c r ih =>
    rw [lead_of]
    split
    · rw [List.length_cons]; omega
    · exact Nat.zero_le _
/-- at the first byte for which p does not hold the count ends -/
theorem lead_of_at (p : UInt8 → Bool) (l : List UInt8) (k : Nat) (h : ∀ j, j < k → ∃ c, l[j]? = some c ∧ p c = true) (he : l[k]? = none ∨ ∃ c, l[k]? = some c ∧ p c = false) : lead_of p l = k := by
  induction k generalizing l with
  | zero =>
    cases l with
    | nil => rfl
    | cons c r =>
      rcases he with he | ⟨d, he, hd⟩
      · cases he
      · have : c = d := Option.some.inj he
        subst this
        rw [lead_of, hd]; rfl
  | succ k ih =>
    cases l with
    | nil => obtain ⟨c, hc, _⟩ := h 0 (by omega); cases hc
    | cons c r =>
      obtain ⟨d, hd, hp⟩ := h 0 (by omega)
      have : c = d := Option.some.inj hd
      subst this
      rw [lead_of, if_pos hp, ih r (fun j hj => by obtain ⟨x, hx, hpx⟩ := h (j + 1) (by omega); exact ⟨x, by simpa using hx, hpx⟩) (by simpa using he)]
theorem lead_of_in {p : UInt8 → Bool} {l : List UInt8} {j : Nat} (h : j < lead_of p l) : ∃ c, l[j]? = some c ∧ p c = true := by
  induction l generalizing j with
  | nil => exact absurd h (by simp [lead_of])
  | cons c r ih =>
    rw [lead_of] at h
    by_cases hp : p c = true
    · rw [if_pos hp] at h
      cases j with
      | zero => exact ⟨c, rfl, hp⟩
      | succ j =>
        obtain ⟨x, hx, hpx⟩ := ih (j := j) (by omega)
        exact ⟨x, by simpa using hx, hpx⟩
    · rw [if_neg hp] at h; omega
theorem lead_of_end (p : UInt8 → Bool) (l : List UInt8) : l[lead_of p l]? = none ∨ ∃ c, l[lead_of p l]? = some c ∧ p c = false := by
  induction l with
  | nil => exact .inl rfl
  | cons c r ih =>
    rw [lead_of]
    by_cases hp : p c = true
    · rw [if_pos hp]; simpa using ih
    · rw [if_neg hp]; exact .inr ⟨c, rfl, by simpa using hp⟩
theorem lead_of_all {p : UInt8 → Bool} {l : List UInt8} : (l.take (lead_of p l)).all p = true := by
  induction l with
  | nil => rfl
  | cons c r ih =>
    rw [lead_of]
    by_cases hp : p c = true
    · rw [if_pos hp, List.take_succ_cons, List.all_cons, hp, ih]; rfl
    · rw [if_neg hp]; rfl
/-- behind bytes that all satisfy p, what does not begin with one -/
theorem lead_of_app {p : UInt8 → Bool} {a b : List UInt8} (ha : a.all p = true) (hb : b.head? = none ∨ ∃ c, b.head? = some c ∧ p c = false) : lead_of p (a ++ b) = a.length := by
  induction a with
  | nil =>
    cases b with
    | nil => rfl
    | cons c r =>
      rcases hb with hb | ⟨d, hd, hp⟩
      · cases hb
      · have : c = d := Option.some.inj hd
        subst this
        rw [List.nil_append, lead_of, hp]; rfl
  | cons c r ih =>
    simp only [List.all_cons, Bool.and_eq_true] at ha
    rw [List.cons_append, lead_of, if_pos ha.1, ih ha.2, List.length_cons]
theorem lead_of_pos {p : UInt8 → Bool} {c : UInt8} {r : List UInt8} (h : p c = true) : 1 ≤ lead_of p (c :: r) := by
  rw [lead_of, if_pos h]; omega

/-- the first byte behind blanks and comments: how many bytes to pass (inside a comment or not) -/
def skipL : Bool → List UInt8 → Nat
  | _, [] => 0
  | true, c :: r => if c.toNat = 10 then 0 else skipL true r + 1
  | false, c :: r => if c.toNat = 35 then skipL true r + 1 else if c.toNat = 32 ∨ c.toNat = 9 then skipL false r + 1 else 0
theorem skipL_le (b : Bool) (l : List UInt8) : skipL b l ≤ l.length := by
  induction l generalizing b with
  | nil => cases b <;> exact Nat.le_refl _
  | cons c r ih =>
    have h1 := ih true
    have h2 := ih false
    cases b
    · rw [skipL]; split
      · rw [List.length_cons]; omega
      · split
        · rw [List.length_cons]; omega
        · exact Nat.zero_le _
    · rw [skipL]; split
      · exact Nat.zero_le _
      · rw [List.length_cons]; omega

/-- what is read at the head of a text: the code, the kind, the text, the number, the bytes taken -/
structure SR where
  code : Int
  k : Int
  t : List UInt8
  n : Int
  len : Nat
def SR.err (c : Int) : SR := ⟨c, 0, [], 0, 0⟩
def lxName (l : List UInt8) : SR := if 16 < lead_of wordB l then .err 4 else ⟨0, 1, l.take (lead_of wordB l), 0, lead_of wordB l⟩
/-- do the first ten bytes have the form of a date -/
def datedB (l : List UInt8) : Bool := decide (10 ≤ l.length) && (digB (l.take 4) && (l[4]? == some 45 && (digB ((l.drop 5).take 2) && (l[7]? == some 45 && digB ((l.drop 8).take 2)))))
def pointB (l : List UInt8) (q : Nat) : Bool := l[lead_of isDig l]? == some 46 && lead_of isDig (l.drop (lead_of isDig l + 1)) == q
def rateB (l : List UInt8) : Bool := pointB l 4 && l[lead_of isDig l + 5]? == some 37
/-- kind and length of a number -/
def lxKL (l : List UInt8) : Int × Nat :=
  if datedB l then (5, 10) else if pointB l 2 then (3, lead_of isDig l + 3) else if rateB l then (4, lead_of isDig l + 6) else (2, lead_of isDig l)
def zeroB (l : List UInt8) : Bool := !datedB l && (decide (1 < lead_of isDig l) && l[0]? == some 48)
def gluedAt : Option UInt8 → Bool
  | some c => gluedB c
  | none => false
def mostK (k : Int) : Int := if k = 3 then 1000000000000000 else if k = 4 then 1000000000 else 1000000000000
def digsN (t : List UInt8) : Nat := val (t.filter isDig) 0
/-- the number of a token of a kind, and the code -/
def lxVal (k : Int) (t : List UInt8) : Int × Int :=
  if k = 5 then (if (dparS (bs t)).2 = 0 then dparS (bs t) else (0, 3)) else if mostK k < digsN t then (0, 3) else (digsN t, 0)
def lxNum (l : List UInt8) : SR :=
  if zeroB l then .err 2 else if gluedAt l[(lxKL l).2]? then .err 2 else
    if (lxVal (lxKL l).1 (l.take (lxKL l).2)).2 = 0 then ⟨0, (lxKL l).1, l.take (lxKL l).2, (lxVal (lxKL l).1 (l.take (lxKL l).2)).1, (lxKL l).2⟩ else .err 3
def inStr (c : UInt8) : Bool := decide (c.toNat ≠ 34) && decide (c.toNat ≠ 10)
def printB (c : UInt8) : Bool := decide (32 ≤ c.toNat) && decide (c.toNat ≤ 126)
def lxStr (l : List UInt8) : SR :=
  if (l.drop 1)[lead_of inStr (l.drop 1)]? = some 34 then
    (if ((l.drop 1).take (lead_of inStr (l.drop 1))).all printB then
      (if 64 < lead_of inStr (l.drop 1) then .err 4 else ⟨0, 6, (l.drop 1).take (lead_of inStr (l.drop 1)), 0, lead_of inStr (l.drop 1) + 2⟩)
      else .err 2)
    else .err 5
def sym1 (c : UInt8) : Bool := decide (c.toNat = 60) || (decide (c.toNat = 61) || (decide (c.toNat = 40) || (decide (c.toNat = 41) || (decide (c.toNat = 44) || (decide (c.toNat = 58) || (decide (c.toNat = 43) || (decide (c.toNat = 45) || decide (c.toNat = 42))))))))
def sym2 (c : UInt8) : Bool := decide (c.toNat = 60) || (decide (c.toNat = 61) || decide (c.toNat = 33))
def lxSym : List UInt8 → SR
  | [] => .err 2
  | c :: r => if r.head? = some 61 ∧ sym2 c = true then ⟨0, 7, [c, 61], 0, 2⟩ else if sym1 c then ⟨0, 7, [c], 0, 1⟩ else .err 2
def lxScan : List UInt8 → SR
  | [] => .err 2
  | c :: r => if c.toNat = 10 then ⟨0, 8, [10], 0, 1⟩ else if lowB c then lxName (c :: r) else if isDig c then lxNum (c :: r) else if c.toNat = 34 then lxStr (c :: r) else lxSym (c :: r)

/-- a token: kind, text, number, offset -/
structure Tok where
  k : Int
  t : List UInt8
  n : Int
  o : Int
/-- the tokens of a text: a bound on their number, the bytes left, their offset -/
def lexF : Nat → List UInt8 → Nat → List Tok × Int × Int
  | 0, _, _ => ([], 0, 0)
  | f + 1, l, o =>
    if l.drop (skipL false l) = [] then ([], 0, 0)
    else if (lxScan (l.drop (skipL false l))).code = 0 then
      (if (lexF f ((l.drop (skipL false l)).drop (lxScan (l.drop (skipL false l))).len) (o + skipL false l + (lxScan (l.drop (skipL false l))).len)).2.2 = 0
       then (⟨(lxScan (l.drop (skipL false l))).k, (lxScan (l.drop (skipL false l))).t, (lxScan (l.drop (skipL false l))).n, ((o + skipL false l : Nat) : Int)⟩ :: (lexF f ((l.drop (skipL false l)).drop (lxScan (l.drop (skipL false l))).len) (o + skipL false l + (lxScan (l.drop (skipL false l))).len)).1, 0, 0)
       else lexF f ((l.drop (skipL false l)).drop (lxScan (l.drop (skipL false l))).len) (o + skipL false l + (lxScan (l.drop (skipL false l))).len))
    else ([], ((o + skipL false l : Nat) : Int), (lxScan (l.drop (skipL false l))).code)
def tokR (l : List UInt8) : List Tok × Int × Int := if 65536 < l.length then ([], 0, 4) else lexF (l.length + 1) l 0
/-- what comes of tokens gathered and of the rest -/
def comb (a : List Tok) (p : List Tok × Int × Int) : List Tok × Int × Int := if p.2.2 = 0 then (a ++ p.1, 0, 0) else p
theorem comb_nil (p : List Tok × Int × Int) (h : p.2.2 = 0 → p.2.1 = 0) : comb [] p = p := by
  unfold comb
  split
  · rename_i h0
    obtain ⟨a, b, c⟩ := p
    simp only at h0 h
    rw [h h0, h0]; rfl
  · rfl
theorem lexF_ok (f : Nat) : ∀ l o, (lexF f l o).2.2 = 0 → (lexF f l o).2.1 = 0 := by
  induction f with
  | zero => intro l o _; rfl
  | succ f ih =>
    intro l o h
    rw [lexF] at h ⊢
    split at h
    · rename_i h1
      rw [if_pos h1]
    · rename_i h1
      rw [if_neg h1]
      split at h
      · rename_i h2
        rw [if_pos h2]
        split at h
        · rename_i h3; rw [if_pos h3]
        · rename_i h3; exact absurd h h3
      · rename_i h2; exact absurd h h2
theorem lexF_end (f : Nat) (l : List UInt8) (o : Nat) (a : List Tok) (h : l.drop (skipL false l) = []) : comb a (lexF f l o) = (a, 0, 0) := by
  cases f with
  | zero => simp [lexF, comb]
  | succ f => rw [lexF, if_pos h]; simp [comb]
theorem lexF_bad (f : Nat) (l : List UInt8) (o j : Nat) (a : List Tok) (hj : skipL false l = j) (h : l.drop j ≠ []) (hc : (lxScan (l.drop j)).code ≠ 0) : comb a (lexF (f + 1) l o) = ([], ((o + j : Nat) : Int), (lxScan (l.drop j)).code) := by
  subst hj
  rw [lexF, if_neg h, if_neg hc, comb, if_neg hc]
theorem lexF_next (f : Nat) (l : List UInt8) (o j : Nat) (a : List Tok) (r : SR) (hj : skipL false l = j) (h : l.drop j ≠ []) (hr : lxScan (l.drop j) = r) (hc : r.code = 0) :
    comb a (lexF (f + 1) l o) = comb (a ++ [⟨r.k, r.t, r.n, ((o + j : Nat) : Int)⟩]) (lexF f ((l.drop j).drop r.len) (o + j + r.len)) := by
  subst hj; subst hr
  rw [lexF, if_neg h, if_pos hc]
  generalize lexF f _ _ = p
  unfold comb
  by_cases hp : p.2.2 = 0
  · rw [if_pos hp, if_pos hp, if_pos rfl]; simp
  · rw [if_neg hp, if_neg hp, if_neg hp]

theorem digB_lead {l : List UInt8} (h : digB l = true) : lead_of isDig l = l.length := by
  have := lead_of_app (p := isDig) (a := l) (b := []) h (.inl rfl)
  simpa using this
/-- a token that was read takes a byte at least, and no more than there are -/
theorem lxName_len {l : List UInt8} (h : (lxName l).code = 0) : (lxName l).len = lead_of wordB l ∧ lead_of wordB l ≤ 16 := by
  unfold lxName at h ⊢
  split at h
  · cases h
  · rename_i h16; rw [if_neg h16]; exact ⟨rfl, by omega⟩
theorem lxNum_len {l : List UInt8} (h : (lxNum l).code = 0) : lxNum l = ⟨0, (lxKL l).1, l.take (lxKL l).2, (lxVal (lxKL l).1 (l.take (lxKL l).2)).1, (lxKL l).2⟩ ∧ zeroB l = false ∧ gluedAt l[(lxKL l).2]? = false ∧ (lxVal (lxKL l).1 (l.take (lxKL l).2)).2 = 0 := by
  unfold lxNum at h ⊢
  cases hz : zeroB l
  · cases hg : gluedAt l[(lxKL l).2]?
    · rw [hz, hg] at h
      by_cases hv : (lxVal (lxKL l).1 (l.take (lxKL l).2)).2 = 0
      · exact ⟨by simp [hv], rfl, rfl, hv⟩
      · simp [hv, SR.err] at h
    · rw [hz, hg] at h; cases h
  · rw [hz] at h; cases h
theorem get_lt {l : List UInt8} {i : Nat} {c : UInt8} (h : l[i]? = some c) : i < l.length := (List.getElem?_eq_some_iff.1 h).1
theorem pointB_iff {l : List UInt8} {q : Nat} : pointB l q = true ↔ l[lead_of isDig l]? = some 46 ∧ lead_of isDig (l.drop (lead_of isDig l + 1)) = q := by
  simp [pointB]
theorem lxKL_le {l : List UInt8} : (lxKL l).2 ≤ l.length := by
  unfold lxKL
  split
  · rename_i h
    simp only [datedB, Bool.and_eq_true, decide_eq_true_eq] at h
    exact h.1
  · split
    · rename_i h
      have h' := pointB_iff.1 h
      have := lead_of_le isDig (l.drop (lead_of isDig l + 1))
      rw [List.length_drop] at this
      have := get_lt h'.1
      simp only; omega
    · split
      · rename_i h
        simp only [rateB, Bool.and_eq_true, beq_iff_eq] at h
        have := get_lt h.2
        simp only; omega
      · exact lead_of_le _ _
theorem lxKL_pos {c : UInt8} {r : List UInt8} (h : isDig c = true) : 1 ≤ (lxKL (c :: r)).2 := by
  have := lead_of_pos (p := isDig) (r := r) h
  unfold lxKL
  split
  · decide
  · split
    · simp only; omega
    · split <;> simp only <;> omega
theorem lxScan_len {l : List UInt8} (h : (lxScan l).code = 0) : 1 ≤ (lxScan l).len ∧ (lxScan l).len ≤ l.length := by
  cases l with
  | nil => cases h
  | cons c r =>
    rw [lxScan] at h ⊢
    split at h
    · rename_i h1; rw [if_pos h1]; exact ⟨Nat.le_refl _, by simp⟩
    · rename_i h1
      rw [if_neg h1]
      split at h
      · rename_i h2
        rw [if_pos h2]
        obtain ⟨e, _⟩ := lxName_len h
        rw [e]
        exact ⟨lead_of_pos (by simp [wordB, h2]), lead_of_le _ _⟩
      · rename_i h2
        rw [if_neg h2]
        split at h
        · rename_i h3
          rw [if_pos h3]
          obtain ⟨e, _⟩ := lxNum_len h
          rw [e]
          exact ⟨lxKL_pos h3, lxKL_le⟩
        · rename_i h3
          rw [if_neg h3]
          split at h
          · rename_i h4
            rw [if_pos h4]
            unfold lxStr at h ⊢
            split at h
            · rename_i h5
              rw [if_pos h5]
              split at h
              · rename_i h6
                rw [if_pos h6]
                split at h
                · cases h
                · rename_i h7
                  rw [if_neg h7]
                  have := get_lt h5
                  simp only [List.length_cons, List.drop_one, List.tail_cons] at this ⊢
                  omega
              · cases h
            · cases h
          · rename_i h4
            rw [if_neg h4]
            rw [lxSym] at h ⊢
            split at h
            · rename_i h5
              rw [if_pos h5]
              cases r with
              | nil => cases h5.1
              | cons d r => simp
            · rename_i h5
              rw [if_neg h5]
              split at h
              · rename_i h6; rw [if_pos h6]; simp
              · cases h
end Go.Proofs.YtdnjfpmngnkcfaaGreatDoor
/- Plain facts about the tokens of a text: where they stand, and what is read from their text. No program stands here. -/
namespace Go.Proofs.YtdnjfpmngnkcfaaGreatDoor

/-- where a token's text begins, behind its offset -/
def quoteN (k : Int) : Nat := if k = 6 then 1 else 0
def srcL (k : Int) (t : List UInt8) : List UInt8 := if k = 6 then 34 :: (t ++ [34]) else t
theorem srcL_six (t : List UInt8) : srcL 6 t = 34 :: (t ++ [34]) := rfl
theorem srcL_no {k : Int} (h : k ≠ 6) (t : List UInt8) : srcL k t = t := by rw [srcL, if_neg h]
theorem lxKL_kind (l : List UInt8) : (lxKL l).1 = 5 ∨ (lxKL l).1 = 3 ∨ (lxKL l).1 = 4 ∨ (lxKL l).1 = 2 := by
  unfold lxKL
  split
  · exact .inl rfl
  · split
    · exact .inr (.inl rfl)
    · split
      · exact .inr (.inr (.inl rfl))
      · exact .inr (.inr (.inr rfl))
/-- what a token that was read has taken -/
theorem lxScan_src {l : List UInt8} (h : (lxScan l).code = 0) : srcL (lxScan l).k (lxScan l).t = l.take (lxScan l).len := by
  cases l with
  | nil => cases h
  | cons c r =>
    rw [lxScan] at h ⊢
    split at h
    · rename_i h1
      rw [if_pos h1]
      rw [show c = 10 from UInt8.toNat_inj.1 h1]; rfl
    · rename_i h1
      rw [if_neg h1]
      split at h
      · rename_i h2
        rw [if_pos h2]
        unfold lxName at h ⊢
        split at h
        · cases h
        · rename_i h3; rw [if_neg h3]; rfl
      · rename_i h2
        rw [if_neg h2]
        split at h
        · rename_i h3
          rw [if_pos h3]
          obtain ⟨e, _⟩ := lxNum_len h
          rw [e]
          exact srcL_no (by rcases lxKL_kind (c :: r) with e | e | e | e <;> simp only [e] <;> decide) _
        · rename_i h3
          rw [if_neg h3]
          split at h
          · rename_i h4
            rw [if_pos h4]
            unfold lxStr at h ⊢
            split at h
            · rename_i h5
              rw [if_pos h5]
              split at h
              · rename_i h6
                rw [if_pos h6]
                split at h
                · cases h
                · rename_i h7
                  rw [if_neg h7]
                  simp only [List.drop_one, List.tail_cons] at h5 ⊢
                  rw [srcL_six, show lead_of inStr r + 2 = (lead_of inStr r + 1) + 1 from rfl, List.take_succ_cons, List.take_add_one, h5, show c = 34 from UInt8.toNat_inj.1 h4]
                  rfl
              · cases h
            · cases h
          · rename_i h4
            rw [if_neg h4]
            rw [lxSym] at h ⊢
            split at h
            · rename_i h5
              rw [if_pos h5]
              cases r with
              | nil => cases h5.1
              | cons d r =>
                have : d = 61 := Option.some.inj h5.1
                rw [this]; rfl
            · rename_i h5
              rw [if_neg h5]
              split at h
              · rename_i h6; rw [if_pos h6]; rfl
              · cases h

/-- the token stands in the text at its offset -/
def TokAt (s : List UInt8) (t : Tok) : Prop := ∃ p : Nat, t.o = p ∧ p + quoteN t.k + t.t.length ≤ s.length ∧ (s.drop (p + quoteN t.k)).take t.t.length = t.t
theorem scan_at {s : List UInt8} {p : Nat} (h : (lxScan (s.drop p)).code = 0) (hp : p < s.length) : TokAt s ⟨(lxScan (s.drop p)).k, (lxScan (s.drop p)).t, (lxScan (s.drop p)).n, (p : Int)⟩ := by
  have h1 := lxScan_src h
  have h2 := (lxScan_len h).2
  generalize lxScan (s.drop p) = r at *
  refine ⟨p, rfl, ?_⟩
  rw [List.length_drop] at h2
  by_cases h6 : r.k = 6
  · rw [h6, srcL_six] at h1
    have hl := congrArg List.length h1
    simp only [List.length_cons, List.length_append, List.length_nil, List.length_take, List.length_drop] at hl
    simp only [h6, quoteN, if_true]
    refine ⟨by omega, ?_⟩
    have e : (s.drop p).take (r.t.length + 1) = 34 :: r.t := by
      have := congrArg (List.take (r.t.length + 1)) h1
      rw [List.take_take, Nat.min_eq_left (by omega)] at this
      rw [← this, List.take_succ_cons, List.take_left' rfl]
    rw [← List.drop_drop]
    have e2 := congrArg (List.drop 1) e
    rw [List.drop_take] at e2
    simpa using e2
  · rw [srcL_no h6] at h1
    have hl := congrArg List.length h1
    simp only [List.length_take, List.length_drop] at hl
    simp only [quoteN, if_neg h6, Nat.add_zero]
    refine ⟨by omega, ?_⟩
    rw [hl, Nat.min_eq_left (by omega), h1]
theorem lexF_toks (s : List UInt8) : ∀ (f : Nat) (o : Nat), (lexF f (s.drop o) o).2.2 = 0 → ∀ (i : Nat) (t : Tok), (lexF f (s.drop o) o).1[i]? = some t →
    TokAt s t ∧ (o : Int) ≤ t.o ∧ ∀ t', 0 < i → (lexF f (s.drop o) o).1[i - 1]? = some t' → t'.o < t.o := by
  intro f
  induction f with
  | zero => intro o _ i t h; simp [lexF] at h
  | succ f ih =>
    intro o hc i t h
    generalize hj : skipL false (s.drop o) = j at *
    by_cases hn : (s.drop o).drop j = []
    · rw [lexF, hj, if_pos hn] at h; simp at h
    · have hlen : o + j < s.length := by
        rw [List.drop_drop, List.drop_eq_nil_iff] at hn; omega
      by_cases hs : (lxScan ((s.drop o).drop j)).code = 0
      · have hln := lxScan_len hs
        rw [lexF, hj, if_neg hn, if_pos hs] at hc h ⊢
        have hds : ((s.drop o).drop j).drop (lxScan ((s.drop o).drop j)).len = s.drop (o + j + (lxScan ((s.drop o).drop j)).len) := by rw [List.drop_drop, List.drop_drop]; simp only [Nat.add_assoc]
        rw [hds] at hc h ⊢
        have hat := scan_at (s := s) (p := o + j) (by rw [← List.drop_drop]; exact hs) hlen
        rw [← List.drop_drop] at hat
        generalize lxScan ((s.drop o).drop j) = r at *
        by_cases hp : (lexF f (s.drop (o + j + r.len)) (o + j + r.len)).2.2 = 0
        · have IH := ih _ hp
          rw [if_pos hp] at h ⊢
          cases i with
          | zero =>
            have e : _ = t := Option.some.inj h
            subst e
            exact ⟨hat, by simp only; omega, fun _ h0 => absurd h0 (by omega)⟩
          | succ i =>
            simp only [List.getElem?_cons_succ] at h
            obtain ⟨g1, g2, g3⟩ := IH i t h
            refine ⟨g1, by omega, fun t' _ ht' => ?_⟩
            cases i with
            | zero =>
              have e : _ = t' := Option.some.inj ht'
              subst e
              simp only; omega
            | succ i => exact g3 t' (by omega) (by simpa using ht')
        · rw [if_neg hp] at hc; exact absurd hc hp
      · rw [lexF, hj, if_neg hn, if_neg hs] at hc; exact absurd hc hs
theorem lexF_err (s : List UInt8) : ∀ (f : Nat) (o : Nat), o ≤ s.length → (lexF f (s.drop o) o).2.2 ≠ 0 → (lexF f (s.drop o) o).1 = [] ∧ 0 ≤ (lexF f (s.drop o) o).2.1 ∧ (lexF f (s.drop o) o).2.1 ≤ s.length := by
  intro f
  induction f with
  | zero => intro o _ h; exact absurd rfl h
  | succ f ih =>
    intro o ho hc
    have hj2 := skipL_le false (s.drop o)
    generalize hj : skipL false (s.drop o) = j at *
    rw [List.length_drop] at hj2
    by_cases hn : (s.drop o).drop j = []
    · rw [lexF, hj, if_pos hn] at hc; exact absurd rfl hc
    · by_cases hs : (lxScan ((s.drop o).drop j)).code = 0
      · have hln := (lxScan_len hs).2
        rw [lexF, hj, if_neg hn, if_pos hs] at hc ⊢
        have hds : ((s.drop o).drop j).drop (lxScan ((s.drop o).drop j)).len = s.drop (o + j + (lxScan ((s.drop o).drop j)).len) := by rw [List.drop_drop, List.drop_drop]; simp only [Nat.add_assoc]
        rw [hds] at hc ⊢
        generalize lxScan ((s.drop o).drop j) = r at *
        rw [List.length_drop, List.length_drop] at hln
        by_cases hp : (lexF f (s.drop (o + j + r.len)) (o + j + r.len)).2.2 = 0
        · rw [if_pos hp] at hc; exact absurd rfl hc
        · rw [if_neg hp] at hc ⊢
          exact ih _ (by omega) hc
      · rw [lexF, hj, if_neg hn, if_neg hs]
        exact ⟨rfl, by simp only; omega, by simp only; omega⟩

/-! what is read again -/
def okRest (b : List UInt8) : Prop := b.head? = none ∨ b.head? = some 32 ∨ b.head? = some 10
structure Good (k : Int) (t : List UInt8) (n : Int) : Prop where
  scan : ∀ b, okRest b ∨ k = 8 → lxScan (srcL k t ++ b) = ⟨0, k, t, n, (srcL k t).length⟩
  skip : ∀ b, skipL false (srcL k t ++ b) = 0
  ne : srcL k t ≠ []
  nl : k = 8 → t = [10]
theorem okRest_p {p : UInt8 → Bool} {b : List UInt8} (h : okRest b) (h1 : p 32 = false) (h2 : p 10 = false) : b.head? = none ∨ ∃ c, b.head? = some c ∧ p c = false := by
  rcases h with h | h | h
  · exact .inl h
  · exact .inr ⟨32, h, h1⟩
  · exact .inr ⟨10, h, h2⟩
theorem okRest_glued {b : List UInt8} (h : okRest b) : gluedAt b.head? = false := by
  rcases h with h | h | h <;> rw [h] <;> decide
theorem skip_head {c : UInt8} {r : List UInt8} (h1 : c.toNat ≠ 35) (h2 : c.toNat ≠ 32) (h3 : c.toNat ≠ 9) : skipL false (c :: r) = 0 := by
  rw [skipL, if_neg h1, if_neg (by omega)]
/-- the bytes of a number's text -/
def numCh (c : UInt8) : Bool := isDig c || (decide (c.toNat = 46) || decide (c.toNat = 37))
theorem all_at {p : UInt8 → Bool} {l : List UInt8} {i : Nat} {c : UInt8} (h : l.all p = true) (hi : l[i]? = some c) : p c = true :=
  List.all_eq_true.1 h c (List.mem_of_getElem? hi)
theorem not_dated {t b : List UInt8} (ht : t.all numCh = true) (hb : okRest b) : datedB (t ++ b) = false := by
  rw [Bool.eq_false_iff]
  intro h
  simp only [datedB, Bool.and_eq_true, decide_eq_true_eq, beq_iff_eq] at h
  obtain ⟨hl, hd, h4, _⟩ := h
  rcases Nat.lt_trichotomy t.length 4 with hlt | he | hgt
  · have hbl : t.length < (t ++ b).length := by omega
    have hb0 : b ≠ [] := by intro e; rw [e] at hbl; simp at hbl
    obtain ⟨c, r, rfl⟩ : ∃ c r, b = c :: r := by cases b with | nil => exact absurd rfl hb0 | cons c r => exact ⟨c, r, rfl⟩
    have hc : ((t ++ c :: r).take 4)[t.length]? = some c := by
      rw [List.getElem?_take_of_lt hlt, List.getElem?_append_right (Nat.le_refl _), Nat.sub_self]; rfl
    have := all_at (p := isDig) hd hc
    rcases hb with hb | hb | hb
    · cases hb
    · have : c = 32 := Option.some.inj hb
      subst this; revert this; decide
    · have : c = 10 := Option.some.inj hb
      subst this; revert this; decide
  · rw [List.getElem?_append_right (by omega), he, Nat.sub_self, ← List.head?_eq_getElem?] at h4
    rcases hb with hb | hb | hb <;> rw [hb] at h4 <;> exact absurd h4 (by decide)
  · rw [List.getElem?_append_left hgt] at h4
    have := all_at ht h4
    revert this; decide
theorem dated_app {l b : List UInt8} (h : datedB l = true) : datedB (l.take 10 ++ b) = true := by
  simp only [datedB, Bool.and_eq_true, decide_eq_true_eq, beq_iff_eq] at h ⊢
  obtain ⟨hl, h1, h2, h3, h4, h5⟩ := h
  have ht : (l.take 10).length = 10 := by rw [List.length_take]; omega
  refine ⟨by rw [List.length_append]; omega, ?_, ?_, ?_, ?_, ?_⟩
  · rw [List.take_append_of_le_length (by omega), List.take_take]; exact h1
  · rw [List.getElem?_append_left (by omega), List.getElem?_take_of_lt (by omega)]; exact h2
  · rw [List.drop_append_of_le_length (by omega), List.take_append_of_le_length (by rw [List.length_drop]; omega), List.drop_take, List.take_take]; exact h3
  · rw [List.getElem?_append_left (by omega), List.getElem?_take_of_lt (by omega)]; exact h4
  · rw [List.drop_append_of_le_length (by omega), List.take_append_of_le_length (by rw [List.length_drop]; omega), List.drop_take, List.take_take]; exact h5
theorem dig_not46 : isDig 46 = false := by decide
/-- a number's kind and length stay when another rest follows -/
theorem lxKL_app {l b : List UInt8} (hb : okRest b) : lxKL (l.take (lxKL l).2 ++ b) = lxKL l ∧ datedB (l.take (lxKL l).2 ++ b) = datedB l ∧ (l.head?.map isDig = some true → lead_of isDig (l.take (lxKL l).2 ++ b) = lead_of isDig l ∨ datedB l = true) := by
  cases hd : datedB l
  · have hW := lead_of_all (p := isDig) (l := l)
    have hWl := lead_of_le isDig l
    generalize hw : lead_of isDig l = W at *
    have hWlen : (l.take W).length = W := by rw [List.length_take]; omega
    cases h2 : pointB l 2
    · cases h4 : rateB l
      · -- an integer
        have e : lxKL l = (2, W) := by unfold lxKL; rw [hd, h2, h4, hw]; rfl
        rw [e]
        dsimp only
        have hnd : datedB (l.take W ++ b) = false := not_dated (by
          rw [List.all_eq_true] at hW ⊢
          intro x hx; rw [numCh, hW x hx]; rfl) hb
        have hlead : lead_of isDig (l.take W ++ b) = W := by
          rw [lead_of_app hW (okRest_p hb (by decide) (by decide)), hWlen]
        have hpt : ∀ q, pointB (l.take W ++ b) q = false := by
          intro q
          rw [pointB, hlead, List.getElem?_append_right (by omega), hWlen, Nat.sub_self, ← List.head?_eq_getElem?]
          rcases hb with hb | hb | hb <;> rw [hb] <;> rfl
        refine ⟨?_, hnd, fun _ => .inl hlead⟩
        unfold lxKL
        rw [hnd, hpt 2, rateB, hpt 4, hlead]; rfl
      · -- a rate
        have e : lxKL l = (4, W + 6) := by unfold lxKL; rw [hd, h2, h4, hw]; rfl
        rw [e]
        dsimp only
        rw [rateB, Bool.and_eq_true, beq_iff_eq, pointB_iff, hw] at h4
        obtain ⟨⟨p1, p2⟩, p3⟩ := h4
        have hlen := get_lt p3
        have hF := lead_of_all (p := isDig) (l := l.drop (W + 1))
        rw [p2] at hF
        have hsplit : l.take (W + 6) = l.take W ++ (46 :: ((l.drop (W + 1)).take 4 ++ [37])) := by
          rw [show W + 6 = W + (1 + (4 + 1)) from rfl, List.take_add, List.take_add (i := 1), List.drop_drop, List.take_add_one (i := 4)]
          rw [show (l.drop W).take 1 = [46] by rw [List.take_one, List.head?_drop, p1]; rfl]
          rw [List.getElem?_drop, show W + 1 + 4 = W + 5 from by omega, p3]; rfl
        have hFl : ((l.drop (W + 1)).take 4).length = 4 := by rw [List.length_take, List.length_drop]; omega
        have hlead : lead_of isDig (l.take (W + 6) ++ b) = W := by
          rw [hsplit, List.append_assoc, lead_of_app hW (.inr ⟨46, rfl, dig_not46⟩), hWlen]
        have hdrop : (l.take (W + 6) ++ b).drop (W + 1) = (l.drop (W + 1)).take 4 ++ (37 :: b) := by
          rw [hsplit, List.append_assoc, show W + 1 = (l.take W).length + 1 by rw [hWlen], ← List.drop_drop, List.drop_left' rfl]
          simp
        have hget : ∀ i, i < W + 6 → (l.take (W + 6) ++ b)[i]? = l[i]? := fun i hi => by
          rw [List.getElem?_append_left (by rw [List.length_take]; omega), List.getElem?_take_of_lt hi]
        have hl4 : lead_of isDig ((l.take (W + 6) ++ b).drop (W + 1)) = 4 := by
          rw [hdrop, lead_of_app hF (.inr ⟨37, rfl, by decide⟩), hFl]
        have hpt : ∀ q, pointB (l.take (W + 6) ++ b) q = (4 == q) := by
          intro q
          rw [pointB, hlead, hl4, hget W (by omega), p1]; rfl
        have hnd : datedB (l.take (W + 6) ++ b) = false := not_dated (by
          rw [hsplit, List.all_append, List.all_cons, List.all_append]
          have i1 : (l.take W).all numCh = true := by
            rw [List.all_eq_true] at hW ⊢
            intro x hx; rw [numCh, hW x hx]; rfl
          have i2 : ((l.drop (W + 1)).take 4).all numCh = true := by
            rw [List.all_eq_true] at hF ⊢
            intro x hx; rw [numCh, hF x hx]; rfl
          rw [i1, i2]; decide) hb
        refine ⟨?_, hnd, fun _ => .inl hlead⟩
        unfold lxKL
        rw [hnd, hpt 2, rateB, hpt 4, hlead, hget (W + 5) (by omega), p3]; rfl
    · -- an amount
      have e : lxKL l = (3, W + 3) := by unfold lxKL; rw [hd, h2, hw]; rfl
      rw [e]
      dsimp only
      rw [pointB_iff, hw] at h2
      obtain ⟨p1, p2⟩ := h2
      have hlen := get_lt p1
      have hF := lead_of_all (p := isDig) (l := l.drop (W + 1))
      have hF2 := lead_of_le isDig (l.drop (W + 1))
      rw [p2, List.length_drop] at hF2
      rw [p2] at hF
      have hsplit : l.take (W + 3) = l.take W ++ (46 :: (l.drop (W + 1)).take 2) := by
        rw [show W + 3 = W + (1 + 2) from rfl, List.take_add, List.take_add (i := 1), List.drop_drop]
        rw [show (l.drop W).take 1 = [46] by rw [List.take_one, List.head?_drop, p1]; rfl]
        rfl
      have hFl : ((l.drop (W + 1)).take 2).length = 2 := by rw [List.length_take, List.length_drop]; omega
      have hlead : lead_of isDig (l.take (W + 3) ++ b) = W := by
        rw [hsplit, List.append_assoc, lead_of_app hW (.inr ⟨46, rfl, dig_not46⟩), hWlen]
      have hdrop : (l.take (W + 3) ++ b).drop (W + 1) = (l.drop (W + 1)).take 2 ++ b := by
        rw [hsplit, List.append_assoc, show W + 1 = (l.take W).length + 1 by rw [hWlen], ← List.drop_drop, List.drop_left' rfl]
        simp
      have hget : ∀ i, i < W + 3 → (l.take (W + 3) ++ b)[i]? = l[i]? := fun i hi => by
        rw [List.getElem?_append_left (by rw [List.length_take]; omega), List.getElem?_take_of_lt hi]
      have hl2 : lead_of isDig ((l.take (W + 3) ++ b).drop (W + 1)) = 2 := by
        rw [hdrop, lead_of_app hF (okRest_p hb (by decide) (by decide)), hFl]
      have hpt : ∀ q, pointB (l.take (W + 3) ++ b) q = (2 == q) := by
        intro q
        rw [pointB, hlead, hl2, hget W (by omega), p1]; rfl
      have hnd : datedB (l.take (W + 3) ++ b) = false := not_dated (by
        rw [hsplit, List.all_append, List.all_cons]
        have i1 : (l.take W).all numCh = true := by
          rw [List.all_eq_true] at hW ⊢
          intro x hx; rw [numCh, hW x hx]; rfl
        have i2 : ((l.drop (W + 1)).take 2).all numCh = true := by
          rw [List.all_eq_true] at hF ⊢
          intro x hx; rw [numCh, hF x hx]; rfl
        rw [i1, i2]; decide) hb
      refine ⟨?_, hnd, fun _ => .inl hlead⟩
      unfold lxKL
      rw [hnd, hpt 2, hlead]; rfl
  · have e : lxKL l = (5, 10) := by unfold lxKL; rw [hd]; rfl
    rw [e]
    dsimp only
    refine ⟨?_, dated_app hd, fun _ => .inr rfl⟩
    unfold lxKL; rw [dated_app hd]; rfl
theorem num_good {c : UInt8} {r : List UInt8} (hc : isDig c = true) (h : (lxNum (c :: r)).code = 0) :
    ∀ b, okRest b → lxNum ((lxNum (c :: r)).t ++ b) = lxNum (c :: r) := by
  intro b hb
  obtain ⟨e, hz, _, hv⟩ := lxNum_len h
  have hle := lxKL_le (l := c :: r)
  have hpos := lxKL_pos (r := r) hc
  obtain ⟨g1, g2, g3⟩ := lxKL_app (l := c :: r) hb
  have g3' := g3 (by simp [hc])
  rw [e]
  dsimp only
  generalize hl : c :: r = l at *
  have h0 : l[0]? = some c := by rw [← hl]; rfl
  have htl : (l.take (lxKL l).2).length = (lxKL l).2 := by rw [List.length_take]; omega
  have hz' : zeroB (l.take (lxKL l).2 ++ b) = false := by
    unfold zeroB at hz ⊢
    rw [g2]
    rcases g3' with g | g
    · rw [g, List.getElem?_append_left (by omega), List.getElem?_take_of_lt (by omega)]; exact hz
    · rw [g]; rfl
  have htk : (l.take (lxKL l).2 ++ b).take (lxKL l).2 = l.take (lxKL l).2 := List.take_left' htl
  unfold lxNum
  rw [hz', g1, htk, List.getElem?_append_right (by omega), htl, Nat.sub_self, ← List.head?_eq_getElem?, okRest_glued hb, if_pos hv]
  rfl
theorem scan_good {l : List UInt8} (h : (lxScan l).code = 0) : Good (lxScan l).k (lxScan l).t (lxScan l).n := by
  cases l with
  | nil => cases h
  | cons c r =>
    have hsrc := lxScan_src h
    rw [lxScan] at h hsrc ⊢
    split at h
    · rename_i h1
      rw [if_pos h1]
      exact ⟨fun b _ => rfl, fun b => rfl, by decide, fun _ => rfl⟩
    · rename_i h1
      rw [if_neg h1] at hsrc ⊢
      split at h
      · rename_i h2
        rw [if_pos h2] at hsrc ⊢
        have hl := lxName_len h
        have hpos := lead_of_pos (p := wordB) (c := c) (r := r) (by simp [wordB, h2])
        have hle := lead_of_le wordB (c :: r)
        have hall := lead_of_all (p := wordB) (l := c :: r)
        have e : lxName (c :: r) = ⟨0, 1, (c :: r).take (lead_of wordB (c :: r)), 0, lead_of wordB (c :: r)⟩ := by unfold lxName; rw [if_neg (by omega)]
        rw [e]
        dsimp only
        generalize hW : lead_of wordB (c :: r) = W at *
        obtain ⟨W', rfl⟩ : ∃ W', W = W' + 1 := ⟨W - 1, by omega⟩
        rw [List.take_succ_cons] at hall ⊢
        have htl : (r.take W').length = W' := by rw [List.length_take]; simp only [List.length_cons] at hle; omega
        have hlow : 97 ≤ c.toNat ∧ c.toNat ≤ 122 := by simpa [lowB] using h2
        have k6 : (1 : Int) ≠ 6 := by decide
        have k8 : ¬ (1 : Int) = 8 := by decide
        refine ⟨fun b hb => ?_, fun b => ?_, by rw [srcL_no k6]; simp, fun h8 => absurd h8 k8⟩
        · rw [srcL_no (by decide)]
          have hb' : okRest b := by rcases hb with hb | hb; exact hb; exact absurd hb (by decide)
          have hlead := lead_of_app (p := wordB) hall (okRest_p hb' (by decide) (by decide))
          rw [List.length_cons, htl] at hlead
          rw [List.cons_append, lxScan, if_neg (by omega), if_pos h2, lxName]
          rw [List.cons_append] at hlead
          rw [hlead, if_neg (by omega), List.length_cons, htl, List.take_succ_cons, List.take_left' htl]
        · rw [srcL_no (by decide), List.cons_append]
          exact skip_head (by omega) (by omega) (by omega)
      · rename_i h2
        rw [if_neg h2] at hsrc ⊢
        split at h
        · rename_i h3
          rw [if_pos h3] at hsrc ⊢
          have hg := num_good h3 h
          obtain ⟨e, _⟩ := lxNum_len h
          have hpos := lxKL_pos (r := r) h3
          have hle := lxKL_le (l := c :: r)
          have hk : (lxNum (c :: r)).k ≠ 6 ∧ (lxNum (c :: r)).k ≠ 8 := by
            rw [e]; rcases lxKL_kind (c :: r) with e | e | e | e <;> simp only [e] <;> decide
          have hlen : (lxNum (c :: r)).len = (lxNum (c :: r)).t.length := by
            rw [e]; dsimp only; rw [List.length_take]; omega
          have hcode : (lxNum (c :: r)).code = 0 := h
          obtain ⟨m, hm⟩ : ∃ m, (lxNum (c :: r)).t = c :: m := by
            rw [e]; dsimp only
            obtain ⟨q, hq⟩ : ∃ q, (lxKL (c :: r)).2 = q + 1 := ⟨(lxKL (c :: r)).2 - 1, by omega⟩
            rw [hq]; exact ⟨_, rfl⟩
          have hdg := isDig_iff.1 h3
          generalize lxNum (c :: r) = R at *
          rw [srcL_no hk.1] at *
          refine ⟨fun b hb => ?_, fun b => ?_, by rw [srcL_no hk.1, hm]; simp, fun h8 => absurd h8 hk.2⟩
          · rw [srcL_no hk.1]
            have hb' : okRest b := by rcases hb with hb | hb; exact hb; exact absurd hb hk.2
            have := hg b hb'
            rw [hm, List.cons_append] at this ⊢
            rw [lxScan, if_neg (by omega), if_neg (by simp [lowB]; omega), if_pos h3, this, ← hm, ← hlen, ← hcode]
          · rw [srcL_no hk.1, hm, List.cons_append]
            exact skip_head (by omega) (by omega) (by omega)
        · rename_i h3
          rw [if_neg h3] at hsrc ⊢
          split at h
          · rename_i h4
            rw [if_pos h4] at hsrc ⊢
            have hc34 : c = 34 := UInt8.toNat_inj.1 h4
            unfold lxStr at h ⊢
            split at h
            · rename_i h5
              rw [if_pos h5]
              split at h
              · rename_i h6
                rw [if_pos h6]
                split at h
                · cases h
                · rename_i h7
                  rw [if_neg h7]
                  simp only [List.drop_one, List.tail_cons] at h5 h6 h7 ⊢
                  have hall := lead_of_all (p := inStr) (l := r)
                  have hle := lead_of_le inStr r
                  generalize lead_of inStr r = j at *
                  have htl : (r.take j).length = j := by rw [List.length_take]; omega
                  refine ⟨fun b _ => ?_, fun b => ?_, by rw [srcL_six]; simp, fun h8 => absurd h8 (by decide)⟩
                  · have hlead := lead_of_app (p := inStr) (b := 34 :: b) hall (.inr ⟨34, rfl, by decide⟩)
                    rw [htl] at hlead
                    rw [srcL_six]
                    have e1 : (34 :: (r.take j ++ [34])) ++ b = 34 :: (r.take j ++ 34 :: b) := by simp
                    rw [e1, lxScan, if_neg (by decide), if_neg (by decide), if_neg (by decide), if_pos (by decide), lxStr]
                    simp only [List.drop_one, List.tail_cons]
                    rw [hlead, List.getElem?_append_right (by omega), htl, Nat.sub_self, if_pos (by rfl), List.take_left' htl, if_pos h6, if_neg h7]
                    simp [htl]
                  · rw [srcL_six]; rfl
              · cases h
            · cases h
          · rename_i h4
            rw [if_neg h4] at hsrc ⊢
            rw [lxSym] at h hsrc ⊢
            split at h
            · rename_i h5
              rw [if_pos h5]
              have k6 : (7 : Int) ≠ 6 := by decide
              have k8 : ¬ (7 : Int) = 8 := by decide
              have hs2 : c.toNat = 60 ∨ c.toNat = 61 ∨ c.toNat = 33 := by simpa [sym2] using h5.2
              refine ⟨fun b _ => ?_, fun b => ?_, by rw [srcL_no k6]; simp, fun h8 => absurd h8 k8⟩
              · rw [srcL_no k6, List.cons_append, lxScan, if_neg h1, if_neg h2, if_neg h3, if_neg h4, lxSym, if_pos ⟨rfl, h5.2⟩]; rfl
              · rw [srcL_no k6, List.cons_append]
                exact skip_head (by omega) (by omega) (by omega)
            · rename_i h5
              rw [if_neg h5]
              split at h
              · rename_i h6
                rw [if_pos h6]
                have k6 : (7 : Int) ≠ 6 := by decide
                have k8 : ¬ (7 : Int) = 8 := by decide
                have hs1 : c.toNat = 60 ∨ c.toNat = 61 ∨ c.toNat = 40 ∨ c.toNat = 41 ∨ c.toNat = 44 ∨ c.toNat = 58 ∨ c.toNat = 43 ∨ c.toNat = 45 ∨ c.toNat = 42 := by simpa [sym1] using h6
                refine ⟨fun b hb => ?_, fun b => ?_, by rw [srcL_no k6]; simp, fun h8 => absurd h8 k8⟩
                · have hb' : okRest b := by rcases hb with hb | hb; exact hb; exact absurd hb k8
                  rw [srcL_no k6, List.cons_append, List.nil_append, lxScan, if_neg h1, if_neg h2, if_neg h3, if_neg h4, lxSym, if_neg, if_pos h6]
                  · rfl
                  · rintro ⟨e, _⟩
                    rcases hb' with hb | hb | hb <;> rw [hb] at e <;> exact absurd e (by decide)
                · rw [srcL_no k6, List.cons_append]
                  exact skip_head (by omega) (by omega) (by omega)
              · cases h

/-! Format -/
def sepL (p : Option Int) (k : Int) : List UInt8 := match p with
  | some q => if k ≠ 8 ∧ q ≠ 8 then [32] else []
  | none => []
def joinF : Option Int → List Tok → List UInt8
  | _, [] => []
  | p, t :: r => sepL p t.k ++ (srcL t.k t.t ++ joinF (some t.k) r)
/-- is a token read from its text alone -/
def fmtB (t : Tok) : Bool := decide ((tokR (srcL t.k t.t)).2.2 = 0) && (match (tokR (srcL t.k t.t)).1 with
  | [x] => decide (x.k = t.k) && (decide (x.t = t.t) && decide (x.n = t.n))
  | _ => false)
def fmtR (ts : List Tok) : List UInt8 × Int := if ts.all fmtB then (joinF none ts, 0) else ([], 2)
/-- alike but for the offsets -/
def sameT (a b : Tok) : Prop := a.k = b.k ∧ a.t = b.t ∧ a.n = b.n
theorem fmtB_same {a b : Tok} (h : sameT a b) : fmtB a = fmtB b := by
  obtain ⟨h1, h2, h3⟩ := h
  unfold fmtB; rw [h1, h2, h3]
def sameTs : List Tok → List Tok → Prop
  | [], [] => True
  | a :: x, b :: y => sameT a b ∧ sameTs x y
  | _, _ => False
theorem joinF_same : ∀ (a b : List Tok) (p : Option Int), sameTs a b → joinF p a = joinF p b
  | [], [], _, _ => rfl
  | x :: a, y :: b, p, h => by
    obtain ⟨⟨h1, h2, _⟩, h4⟩ := h
    rw [joinF, joinF, h1, h2, joinF_same a b _ h4]
  | [], _ :: _, _, h => h.elim
  | _ :: _, [], _, h => h.elim
theorem all_same : ∀ (a b : List Tok), sameTs a b → a.all fmtB = b.all fmtB
  | [], [], _ => rfl
  | x :: a, y :: b, h => by
    rw [List.all_cons, List.all_cons, fmtB_same h.1, all_same a b h.2]
  | [], _ :: _, h => h.elim
  | _ :: _, [], h => h.elim
theorem sameTs_length : ∀ (a b : List Tok), sameTs a b → a.length = b.length
  | [], [], _ => rfl
  | _ :: a, _ :: b, h => by rw [List.length_cons, List.length_cons, sameTs_length a b h.2]
  | [], _ :: _, h => h.elim
  | _ :: _, [], h => h.elim
theorem sameTs_get : ∀ (a b : List Tok) (i : Nat) (x y : Tok), sameTs a b → a[i]? = some x → b[i]? = some y → sameT x y
  | [], [], _, _, _, _, h, _ => by simp at h
  | a :: _, b :: _, 0, x, y, h, hx, hy => by
    have e1 : a = x := Option.some.inj hx
    have e2 : b = y := Option.some.inj hy
    rw [← e1, ← e2]; exact h.1
  | _ :: a, _ :: b, i + 1, x, y, h, hx, hy => sameTs_get a b i x y h.2 (by simpa using hx) (by simpa using hy)
  | [], _ :: _, _, _, _, h, _, _ => h.elim
  | _ :: _, [], _, _, _, h, _, _ => h.elim
theorem lexF_nil (f : Nat) (o : Nat) : lexF f [] o = ([], 0, 0) := by
  cases f with
  | zero => rfl
  | succ f => rw [lexF, if_pos]; rfl
theorem good_fmt {t : Tok} (h : Good t.k t.t t.n) (hl : (srcL t.k t.t).length ≤ 65536) : fmtB t = true := by
  have e : tokR (srcL t.k t.t) = ([⟨t.k, t.t, t.n, 0⟩], 0, 0) := by
    have h1 := h.scan [] (.inl (.inl rfl))
    have h2 := h.skip []
    rw [List.append_nil] at h1 h2
    rw [tokR, if_neg (by omega), lexF, h2, List.drop_zero, if_neg h.ne, h1]
    rw [if_pos rfl]
    simp only [List.drop_length, lexF_nil]
    rfl
  unfold fmtB
  rw [e]; simp
def goodTs (ts : List Tok) : Prop := ∀ t, t ∈ ts → Good t.k t.t t.n
theorem joinF_head {ts : List Tok} {k : Int} (hg : goodTs ts) : okRest (joinF (some k) ts) ∨ k = 8 := by
  cases ts with
  | nil => exact .inl (.inl rfl)
  | cons t r =>
    by_cases h8 : k = 8
    · exact .inr h8
    · left
      rw [joinF, sepL]
      by_cases ht : t.k = 8
      · rw [if_neg (by omega), ht, (hg t (by simp)).nl ht]
        exact .inr (.inr rfl)
      · rw [if_pos ⟨ht, h8⟩]; exact .inr (.inl rfl)
/-- the formatted tokens are split into the same tokens again -/
theorem lexF_join : ∀ (ts : List Tok) (p : Option Int) (o f : Nat), goodTs ts → ts.length < f → ∃ ts', lexF f (joinF p ts) o = (ts', 0, 0) ∧ sameTs ts' ts := by
  intro ts
  induction ts with
  | nil => intro p o f _ _; exact ⟨[], lexF_nil f o, trivial⟩
  | cons t r ih =>
    intro p o f hg hf
    obtain ⟨f, rfl⟩ : ∃ g, f = g + 1 := ⟨f - 1, by omega⟩
    have ht := hg t (by simp)
    have hr : goodTs r := fun x hx => hg x (by simp [hx])
    have hs := ht.scan (joinF (some t.k) r) (joinF_head hr)
    have hk := ht.skip (joinF (some t.k) r)
    have hsk : skipL false (joinF p (t :: r)) = (sepL p t.k).length ∧ (joinF p (t :: r)).drop (sepL p t.k).length = srcL t.k t.t ++ joinF (some t.k) r := by
      rw [joinF]
      refine ⟨?_, List.drop_left' rfl⟩
      have hsep : sepL p t.k = [] ∨ sepL p t.k = [32] := by
        unfold sepL
        split
        · split
          · exact .inr rfl
          · exact .inl rfl
        · exact .inl rfl
      rcases hsep with e | e
      · rw [e]; exact hk
      · rw [e, List.cons_append, List.nil_append, skipL, if_neg (by decide), if_pos (by decide), hk]; rfl
    obtain ⟨ts', e1, e2⟩ := ih (some t.k) (o + (sepL p t.k).length + (srcL t.k t.t).length) f hr (by simp only [List.length_cons] at hf; omega)
    refine ⟨⟨t.k, t.t, t.n, ((o + (sepL p t.k).length : Nat) : Int)⟩ :: ts', ?_, ⟨rfl, rfl, rfl⟩, e2⟩
    rw [lexF, hsk.1, hsk.2, if_neg (by
      intro e
      exact ht.ne (List.append_eq_nil_iff.1 e).1), hs]
    dsimp only
    rw [if_pos rfl, List.drop_left' rfl, e1]
    rfl
theorem joinF_len : ∀ (ts : List Tok) (p : Option Int), goodTs ts → ts.length ≤ (joinF p ts).length := by
  intro ts
  induction ts with
  | nil => intro p _; exact Nat.zero_le _
  | cons t r ih =>
    intro p hg
    have := ih (some t.k) (fun x hx => hg x (by simp [hx]))
    have h2 := List.length_pos_iff.2 (hg t (by simp)).ne
    rw [joinF, List.length_append, List.length_append, List.length_cons]
    omega
theorem sepL_len (p : Option Int) (k : Int) : (sepL p k).length ≤ 1 := by
  unfold sepL
  split
  · split <;> simp
  · simp
theorem lexF_good (s : List UInt8) : ∀ (f o : Nat), o ≤ s.length → (lexF f (s.drop o) o).2.2 = 0 → goodTs (lexF f (s.drop o) o).1 ∧ ∀ p, (joinF p (lexF f (s.drop o) o).1).length ≤ 2 * (s.length - o) := by
  intro f
  induction f with
  | zero => intro o _ _; exact ⟨fun t ht => by simp [lexF] at ht, fun p => by simp [lexF, joinF]⟩
  | succ f ih =>
    intro o ho hc
    have hj2 := skipL_le false (s.drop o)
    generalize hj : skipL false (s.drop o) = j at *
    rw [List.length_drop] at hj2
    by_cases hn : (s.drop o).drop j = []
    · rw [lexF, hj, if_pos hn]
      exact ⟨fun t ht => by simp at ht, fun p => by simp [joinF]⟩
    · by_cases hs : (lxScan ((s.drop o).drop j)).code = 0
      · have hln := lxScan_len hs
        have hgd := scan_good hs
        have hsrc := lxScan_src hs
        rw [lexF, hj, if_neg hn, if_pos hs] at hc ⊢
        have hds : ((s.drop o).drop j).drop (lxScan ((s.drop o).drop j)).len = s.drop (o + j + (lxScan ((s.drop o).drop j)).len) := by rw [List.drop_drop, List.drop_drop]; simp only [Nat.add_assoc]
        rw [hds] at hc ⊢
        generalize lxScan ((s.drop o).drop j) = r at *
        rw [List.length_drop, List.length_drop] at hln
        by_cases hp : (lexF f (s.drop (o + j + r.len)) (o + j + r.len)).2.2 = 0
        · obtain ⟨i1, i2⟩ := ih _ (by omega) hp
          rw [if_pos hp]
          refine ⟨fun t ht => ?_, fun p => ?_⟩
          · rcases List.mem_cons.1 ht with rfl | ht
            · exact hgd
            · exact i1 t ht
          · have h1 := i2 (some r.k)
            have h2 := congrArg List.length hsrc
            have h3 := sepL_len p r.k
            rw [List.length_take, List.length_drop, List.length_drop] at h2
            rw [joinF, List.length_append, List.length_append]
            dsimp only
            omega
        · rw [if_neg hp] at hc; exact absurd hc hp
      · rw [lexF, hj, if_neg hn, if_neg hs] at hc; exact absurd hc hs
/-- the round trip -/
theorem lex_round {l : List UInt8} (h3 : l.length ≤ 3000) (hc : (tokR l).2.2 = 0) :
    fmtR (tokR l).1 = (joinF none (tokR l).1, 0) ∧ (joinF none (tokR l).1).length ≤ 6000 ∧
    ∃ m, tokR (joinF none (tokR l).1) = (m, 0, 0) ∧ sameTs m (tokR l).1 ∧ fmtR m = (joinF none (tokR l).1, 0) := by
  have e0 : tokR l = lexF (l.length + 1) (l.drop 0) 0 := by rw [tokR, if_neg (by omega), List.drop_zero]
  rw [e0] at hc ⊢
  obtain ⟨hg, hl⟩ := lexF_good l (l.length + 1) 0 (Nat.zero_le _) hc
  generalize (lexF (l.length + 1) (l.drop 0) 0).1 = ts at *
  have hlen := hl none
  have hall : ∀ (ts : List Tok) (p : Option Int), goodTs ts → (joinF p ts).length ≤ 65536 → ts.all fmtB = true := by
    intro ts
    induction ts with
    | nil => intro p _ _; rfl
    | cons t r ih =>
      intro p hg hl
      rw [joinF, List.length_append, List.length_append] at hl
      rw [List.all_cons, good_fmt (hg t (by simp)) (by omega), ih (some t.k) (fun x hx => hg x (by simp [hx])) (by omega)]; rfl
  have h1 := hall ts none hg (by omega)
  have e1 : fmtR ts = (joinF none ts, 0) := by rw [fmtR, if_pos h1]
  obtain ⟨m, em, hm⟩ := lexF_join ts none 0 ((joinF none ts).length + 1) hg (by have := joinF_len ts none hg; omega)
  refine ⟨e1, by omega, m, ?_, hm, ?_⟩
  · rw [tokR, if_neg (by omega), em]
  · rw [fmtR, all_same m ts hm, if_pos h1, joinF_same m ts none hm]
end Go.Proofs.YtdnjfpmngnkcfaaGreatDoor
/- What the lexer's small functions compute: isLower, isDigit, digitsAt, nameLength, isDateForm, hasDecimals. -/
namespace Go.Proofs.YtdnjfpmngnkcfaaGreatDoor
open Go.RowKit

theorem lower_any (c : UInt8) (w : World) : Calls Tryz.prog 42 #[.int .u8 c.toNat] w fun e w' => e = .returned (.bool (lowB c)) ∧ w = w' := by
  by_cases h : 97 ≤ c.toNat
  · have HR := Lib.hid (show lowB c = decide ((c.toNat : Int) ≤ 122) by simp [lowB, h]; omega)
    go_enter Tryz.func42, Tryz.ntmps42
    go_wp2_with fail
    go_ret
    exact ⟨ret_bool HR.out.symm, rfl⟩
  · have HR := Lib.hid (show lowB c = false by simp [lowB, h])
    go_enter Tryz.func42, Tryz.ntmps42
    go_wp2_with fail
    go_ret
    exact ⟨ret_bool HR.out.symm, rfl⟩
theorem ldigit_any (c : UInt8) (w : World) : Calls Tryz.prog 44 #[.int .u8 c.toNat] w fun e w' => e = .returned (.bool (isDig c)) ∧ w = w' := by
  by_cases h : 48 ≤ c.toNat
  · have HR := Lib.hid (show isDig c = decide ((c.toNat : Int) ≤ 57) by simp [isDig, h]; omega)
    go_enter Tryz.func44, Tryz.ntmps44
    go_wp2_with fail
    go_ret
    exact ⟨ret_bool HR.out.symm, rfl⟩
  · have HR := Lib.hid (show isDig c = false by simp [isDig, h])
    go_enter Tryz.func44, Tryz.ntmps44
    go_wp2_with fail
    go_ret
    exact ⟨ret_bool HR.out.symm, rfl⟩
theorem lead_step {p : UInt8 → Bool} {s : ByteArray} {i n k : Nat} (hi : i < s.size) (hp : p (s[i]'hi) = true) (h : n = k + lead_of p ((L s).drop i)) : n = k + 1 + lead_of p ((L s).drop (i + 1)) := by
  rw [h, L_drop s i hi, lead_of, if_pos hp]; omega
theorem lead_stop {p : UInt8 → Bool} {s : ByteArray} {i n k : Nat} (hi : i < s.size) (hp : p (s[i]'hi) = false) (h : n = k + lead_of p ((L s).drop i)) : n = k := by
  rw [h, L_drop s i hi, lead_of, hp]; rfl
theorem lead_out {p : UInt8 → Bool} {s : ByteArray} {i n k : Nat} (hi : ¬ i < s.size) (h : n = k + lead_of p ((L s).drop i)) : n = k := by
  rw [h, List.drop_of_length_le (by rw [L_length]; omega)]; rfl

set_option maxRecDepth 100000 in
set_option maxHeartbeats 1000000 in
theorem dat_any (s : ByteArray) (a : Nat) (hs : s.size ≤ 1000000) (ha : a ≤ 1000000) (w : World) :
    Calls Tryz.prog 60 #[.string s, .int .i64 a] w fun e w' => e = .returned (.int .i64 (lead_of isDig ((L s).drop a))) ∧ w = w' := by
  go_enter Tryz.func60, Tryz.ntmps60
  go_wp2_with fail
  go_loop [5] (fun x => ∃ k : Nat, x = .int .i64 ((a + k : Nat) : Int) ∧ (k = 0 ∨ a + k ≤ s.size) ∧ lead_of isDig ((L s).drop a) = k + lead_of isDig ((L s).drop (a + k))) (fun x => s.size - (intOf x).toNat)
  case atStart => exact ⟨0, rfl, .inl rfl, by simp⟩
  case round =>
    obtain ⟨k, rfl, hk, hr⟩ := hrel
    have hkb : k ≤ 1000000 := by omega
    generalize hi : a + k = i at *
    by_cases hlt : i < s.size
    · cases hd : isDig (s[i]'hlt)
      · have HR := Lib.hid (lead_stop hlt hd hr)
        have HI := Lib.hid hi
        clear hr
        go_wp2_with (go_at_call 44; refine (ldigit_any _ _).mono ?_; rintro e w' ⟨rfl, rfl⟩)
        go_ret
        exact ⟨ret_int (by rw [HR.out]; omega), rfl⟩
      · have HR := Lib.hid (lead_step hlt hd hr)
        clear hr
        go_wp2_with (go_at_call 44; refine (ldigit_any _ _).mono ?_; rintro e w' ⟨rfl, rfl⟩)
        go_round
        case rel => exact ⟨k + 1, by congr 1; omega, by omega, by rw [show a + (k + 1) = i + 1 by omega]; exact HR.out⟩
        case measure => simp [intOf]; omega
    · have HR := Lib.hid (lead_out hlt hr)
      clear hr
      go_wp2_with fail
      go_ret
      exact ⟨ret_int (by rw [HR.out]; omega), rfl⟩

theorem wordB_cases (c : UInt8) : (lowB c = true ∧ wordB c = true) ∨ (lowB c = false ∧ isDig c = true ∧ wordB c = true) ∨ (lowB c = false ∧ isDig c = false ∧ ((c.toNat : Int) == 95) = true ∧ wordB c = true) ∨ (lowB c = false ∧ isDig c = false ∧ ((c.toNat : Int) == 95) = false ∧ wordB c = false) := by
  have e : ((c.toNat : Int) == 95) = decide (c.toNat = 95) := by
    rw [Bool.eq_iff_iff, beq_iff_eq, decide_eq_true_eq]; omega
  unfold wordB
  rw [e]
  cases lowB c <;> cases isDig c <;> cases decide (c.toNat = 95) <;> simp

set_option maxRecDepth 100000 in
set_option maxHeartbeats 1000000 in
theorem nameLen_any (s : ByteArray) (hs : s.size ≤ 1000000) (w : World) :
    Calls Tryz.prog 58 #[.string s] w fun e w' => e = .returned (.int .i64 (lead_of wordB (L s))) ∧ w = w' := by
  go_enter Tryz.func58, Tryz.ntmps58
  go_wp2_with fail
  go_loop [3] (fun x => ∃ k : Nat, x = .int .i64 (k : Int) ∧ k ≤ s.size ∧ lead_of wordB (L s) = k + lead_of wordB ((L s).drop k)) (fun x => s.size - (intOf x).toNat)
  case atStart => exact ⟨0, rfl, Nat.zero_le _, by simp⟩
  case round =>
    obtain ⟨k, rfl, hk, hr⟩ := hrel
    by_cases hlt : k < s.size
    · rcases wordB_cases (s[k]'hlt) with ⟨h1, h2⟩ | ⟨h0, h1, h2⟩ | ⟨h0, h1, h3, h2⟩ | ⟨h0, h1, h3, h2⟩
      iterate 3
        · have HR := Lib.hid (lead_step hlt h2 hr)
          clear hr h2
          go_wp2_with (first | (go_at_call 44; refine (ldigit_any _ _).mono ?_; rintro e w' ⟨rfl, rfl⟩) | (go_at_call 42; refine (lower_any _ _).mono ?_; rintro e w' ⟨rfl, rfl⟩))
          go_round
          case rel => exact ⟨k + 1, by go_num, hlt, HR.out⟩
          case measure => simp [intOf]; omega
      · have HR := Lib.hid (lead_stop hlt h2 hr)
        clear hr h2
        go_wp2_with (first | (go_at_call 44; refine (ldigit_any _ _).mono ?_; rintro e w' ⟨rfl, rfl⟩) | (go_at_call 42; refine (lower_any _ _).mono ?_; rintro e w' ⟨rfl, rfl⟩))
        go_ret
        exact ⟨ret_int (by rw [HR.out]), rfl⟩
    · have HR := Lib.hid (lead_out hlt hr)
      clear hr
      go_wp2_with fail
      go_ret
      exact ⟨ret_int (by rw [HR.out]), rfl⟩

theorem digB_of_lead {l : List UInt8} {q : Nat} (h : q ≤ lead_of isDig l) : digB (l.take q) = true := by
  have := lead_of_all (p := isDig) (l := l)
  unfold digB
  rw [List.all_eq_true] at this ⊢
  intro x hx
  refine this x ?_
  have e : l.take q = (l.take (lead_of isDig l)).take q := by rw [List.take_take, Nat.min_eq_left h]
  rw [e] at hx
  exact List.mem_of_mem_take hx
theorem lead_ge_of {l : List UInt8} {q : Nat} (hq : q ≤ l.length) (h : digB (l.take q) = true) : q ≤ lead_of isDig l := by
  rcases Nat.lt_or_ge (lead_of isDig l) q with hlt | hge
  · exfalso
    rcases lead_of_end isDig l with he | ⟨c, he, hc⟩
    · rw [List.getElem?_eq_none_iff] at he; omega
    · have := all_at (p := isDig) h (by rw [List.getElem?_take_of_lt hlt]; exact he)
      rw [this] at hc; cases hc
  · exact hge
theorem lead_eq_of {l : List UInt8} {q : Nat} {c : UInt8} (hg : l[q]? = some c) (hc : isDig c = false) (h : digB (l.take q) = true) : lead_of isDig l = q := by
  have h1 := lead_ge_of (Nat.le_of_lt (get_lt hg)) h
  rcases Nat.lt_or_ge q (lead_of isDig l) with hlt | hge
  · obtain ⟨d, hd, hp⟩ := lead_of_in hlt
    rw [hg] at hd
    have : c = d := Option.some.inj hd
    rw [this, hp] at hc; cases hc
  · omega
theorem dated_iff (l : List UInt8) : datedB l = true ↔ lead_of isDig l = 4 ∧ lead_of isDig (l.drop 5) = 2 ∧ 2 ≤ lead_of isDig (l.drop 8) ∧ l[4]? = some 45 ∧ l[7]? = some 45 := by
  simp only [datedB, Bool.and_eq_true, decide_eq_true_eq, beq_iff_eq]
  constructor
  · rintro ⟨hl, h1, h2, h3, h4, h5⟩
    refine ⟨lead_eq_of h2 (by decide) h1, lead_eq_of (c := 45) (by rw [List.getElem?_drop]; exact h4) (by decide) h3, lead_ge_of (by rw [List.length_drop]; omega) h5, h2, h4⟩
  · rintro ⟨h1, h2, h3, h4, h5⟩
    have := lead_of_le isDig (l.drop 8)
    rw [List.length_drop] at this
    exact ⟨by omega, digB_of_lead (by omega), h4, digB_of_lead (by omega), h5, digB_of_lead h3⟩
theorem some_45 (c : UInt8) : (some c = some (45 : UInt8)) ↔ c.toNat = 45 := by
  rw [Option.some.injEq, ← UInt8.toNat_inj]; rfl

set_option maxRecDepth 100000 in
set_option maxHeartbeats 1000000 in
theorem isDate_any (s : ByteArray) (hs : s.size ≤ 1000000) (w : World) :
    Calls Tryz.prog 59 #[.string s] w fun e w' => e = .returned (.bool (datedB (L s))) ∧ w = w' := by
  have hd := dated_iff (L s)
  have hl8 := lead_of_le isDig ((L s).drop 8)
  rw [List.length_drop, L_length] at hl8
  have g := L_get s
  have R0 := fun w => dat_any s 0 hs (by omega) w
  have R5 := fun w => dat_any s 5 hs (by omega) w
  have R8 := fun w => dat_any s 8 hs (by omega) w
  rw [List.drop_zero] at R0
  generalize lead_of isDig (L s) = x at *
  generalize lead_of isDig ((L s).drop 5) = y at *
  generalize lead_of isDig ((L s).drop 8) = z at *
  have hno : ¬ (x = 4 ∧ y = 2 ∧ 2 ≤ z ∧ (L s)[4]? = some 45 ∧ (L s)[7]? = some 45) → datedB (L s) = false := fun h => by
    rw [Bool.eq_false_iff]; exact fun e => h (hd.1 e)
  by_cases h1 : x = 4
  · by_cases h2 : y = 2
    · by_cases h3 : 2 ≤ z
      · have k4 := g 4 (by omega)
        have k7 := g 7 (by omega)
        have hl : 10 ≤ s.size := by omega
        rw [k4, k7, some_45, some_45] at hd hno
        subst h1
        subst h2
        by_cases h4 : (s[4]'(by omega)).toNat = 45
        · by_cases h5 : (s[7]'(by omega)).toNat = 45
          · have HR := Lib.hid (hd.2 ⟨rfl, rfl, h3, h4, h5⟩)
            clear hd hno g k4 k7
            go_enter Tryz.func59, Tryz.ntmps59
            go_wp2_with (first
              | (go_at_call_of 60 (Value.int IntKind.i64 0); refine (R0 _).mono ?_; rintro e w' ⟨rfl, rfl⟩)
              | (go_at_call_of 60 (Value.int IntKind.i64 5); refine (R5 _).mono ?_; rintro e w' ⟨rfl, rfl⟩)
              | (go_at_call_of 60 (Value.int IntKind.i64 8); refine (R8 _).mono ?_; rintro e w' ⟨rfl, rfl⟩))
            go_ret
            exact ⟨ret_bool HR.out.symm, rfl⟩
          · have HR := Lib.hid (hno (fun h => h5 h.2.2.2.2))
            have h5b : (((s[7]'(by omega)).toNat : Int) == 45) = false := by rw [beq_eq_false_iff_ne]; omega
            clear hd hno g k4 k7
            go_enter Tryz.func59, Tryz.ntmps59
            go_wp2_with (first
              | (go_at_call_of 60 (Value.int IntKind.i64 0); refine (R0 _).mono ?_; rintro e w' ⟨rfl, rfl⟩)
              | (go_at_call_of 60 (Value.int IntKind.i64 5); refine (R5 _).mono ?_; rintro e w' ⟨rfl, rfl⟩)
              | (go_at_call_of 60 (Value.int IntKind.i64 8); refine (R8 _).mono ?_; rintro e w' ⟨rfl, rfl⟩))
            go_ret
            exact ⟨ret_bool HR.out.symm, rfl⟩
        · have HR := Lib.hid (hno (fun h => h4 h.2.2.2.1))
          have h4b : (((s[4]'(by omega)).toNat : Int) == 45) = false := by rw [beq_eq_false_iff_ne]; omega
          clear hd hno g k4 k7
          go_enter Tryz.func59, Tryz.ntmps59
          go_wp2_with (first
            | (go_at_call_of 60 (Value.int IntKind.i64 0); refine (R0 _).mono ?_; rintro e w' ⟨rfl, rfl⟩)
            | (go_at_call_of 60 (Value.int IntKind.i64 5); refine (R5 _).mono ?_; rintro e w' ⟨rfl, rfl⟩)
            | (go_at_call_of 60 (Value.int IntKind.i64 8); refine (R8 _).mono ?_; rintro e w' ⟨rfl, rfl⟩))
          go_ret
          exact ⟨ret_bool HR.out.symm, rfl⟩
      · have HR := Lib.hid (hno (fun h => h3 h.2.2.1))
        subst h1
        subst h2
        have h3b : decide (2 ≤ (z : Int)) = false := by rw [decide_eq_false_iff_not]; omega
        clear hd hno g
        go_enter Tryz.func59, Tryz.ntmps59
        go_wp2_with (first
          | (go_at_call_of 60 (Value.int IntKind.i64 0); refine (R0 _).mono ?_; rintro e w' ⟨rfl, rfl⟩)
          | (go_at_call_of 60 (Value.int IntKind.i64 5); refine (R5 _).mono ?_; rintro e w' ⟨rfl, rfl⟩)
          | (go_at_call_of 60 (Value.int IntKind.i64 8); refine (R8 _).mono ?_; rintro e w' ⟨rfl, rfl⟩))
        go_ret
        exact ⟨ret_bool HR.out.symm, rfl⟩
    · have HR := Lib.hid (hno (fun h => h2 h.2.1))
      subst h1
      have h2b : ((y : Int) == 2) = false := by rw [beq_eq_false_iff_ne]; omega
      clear hd hno g
      go_enter Tryz.func59, Tryz.ntmps59
      go_wp2_with (first
        | (go_at_call_of 60 (Value.int IntKind.i64 0); refine (R0 _).mono ?_; rintro e w' ⟨rfl, rfl⟩)
        | (go_at_call_of 60 (Value.int IntKind.i64 5); refine (R5 _).mono ?_; rintro e w' ⟨rfl, rfl⟩))
      go_ret
      exact ⟨ret_bool HR.out.symm, rfl⟩
  · have HR := Lib.hid (hno (fun h => h1 h.1))
    have h1b : ((x : Int) == 4) = false := by rw [beq_eq_false_iff_ne]; omega
    clear hd hno g
    go_enter Tryz.func59, Tryz.ntmps59
    go_wp2_with (go_at_call_of 60 (Value.int IntKind.i64 0); refine (R0 _).mono ?_; rintro e w' ⟨rfl, rfl⟩)
    go_ret
    exact ⟨ret_bool HR.out.symm, rfl⟩

theorem prefix_one (l : List UInt8) (c : UInt8) : Lib.hasPrefix l [c] = (l.head? == some c) := by
  cases l with
  | nil => rfl
  | cons d r =>
    show (c == d && true) = (some d == some c)
    rw [Bool.and_true, Bool.eq_iff_iff]
    rw [beq_iff_eq, beq_iff_eq, Option.some.injEq]
    exact ⟨Eq.symm, Eq.symm⟩
def decB (l : List UInt8) (q : Nat) : Bool := l.head? == some 46 && lead_of isDig (l.drop 1) == q
set_option maxRecDepth 100000 in
set_option maxHeartbeats 1000000 in
theorem hasDec_any (s : ByteArray) (q : Nat) (hs : s.size ≤ 1000000) (w : World) :
    Calls Tryz.prog 61 #[.string s, .int .i64 q] w fun e w' => e = .returned (.bool (decB (L s) q)) ∧ w = w' := by
  have hp : Lib.hasPrefix s.data.toList [46] = ((L s).head? == some 46) := prefix_one (L s) 46
  have R1 := fun w => dat_any s 1 hs (by omega) w
  have hd : decB (L s) q = ((L s).head? == some 46 && lead_of isDig ((L s).drop 1) == q) := rfl
  generalize lead_of isDig ((L s).drop 1) = x at *
  cases hh : ((L s).head? == some 46)
  · rw [hh] at hp hd
    have HR := Lib.hid (show decB (L s) q = false from hd)
    clear hd hh
    go_enter Tryz.func61, Tryz.ntmps61
    go_wp2_with (go_at_call 47; refine (Tryz.strings_HasPrefix _ _ _).mono ?_; rintro e w' ⟨rfl, rfl⟩)
    go_ret
    exact ⟨ret_bool HR.out.symm, rfl⟩
  · rw [hh] at hp hd
    have HR := Lib.hid (show decB (L s) q = ((x : Int) == (q : Int)) by
      rw [hd, Bool.true_and, Bool.eq_iff_iff, beq_iff_eq, beq_iff_eq]; omega)
    clear hd hh
    go_enter Tryz.func61, Tryz.ntmps61
    go_wp2_with (first
      | (go_at_call 47; refine (Tryz.strings_HasPrefix _ _ _).mono ?_; rintro e w' ⟨rfl, rfl⟩)
      | (go_at_call 60; refine (R1 _).mono ?_; rintro e w' ⟨rfl, rfl⟩))
    go_ret
    exact ⟨ret_bool HR.out.symm, rfl⟩
end Go.Proofs.YtdnjfpmngnkcfaaGreatDoor
/- What the lexer's number and scanName compute. -/
namespace Go.Proofs.YtdnjfpmngnkcfaaGreatDoor
open Go.RowKit

theorem ext_take (s : ByteArray) (k : Nat) : L (s.extract 0 k) = (L s).take k := by rw [L_extract]; simp
theorem ext_drop (s : ByteArray) (k : Nat) : L (s.extract k s.size) = (L s).drop k := by
  rw [L_extract]
  exact List.take_of_length_le (by rw [List.length_drop, L_length]; omega)

/-! the number of a token -/
theorem fin_pos (l : List UInt8) : finR false (some (acc l 0 false)) = if BB < val l 0 then ((0, 3) : Int × Int) else (((val l 0 : Nat) : Int), 0) := by
  have h := acc_zero l
  generalize acc l 0 false = t at *
  obtain ⟨v, g⟩ := t
  dsimp only at h
  rcases h with ⟨rfl, rfl, h3⟩ | ⟨rfl, h2⟩
  · rw [if_neg (by omega)]; rfl
  · rw [if_pos h2]; rfl
theorem negB_dig {c : UInt8} {r : List UInt8} (h : isDig c = true) : negB (c :: r) = false ∧ bodyL (c :: r) = c :: r := by
  have h' := isDig_iff.1 h
  have hn : negB (c :: r) = false := by
    rw [negB, List.head?_cons, beq_eq_false_iff_ne]
    intro e
    have : c = 45 := Option.some.inj e
    subst this; revert h'; decide
  exact ⟨hn, by rw [bodyL, hn]; rfl⟩
/-- the whole digits: no superfluous zero ahead -/
theorem parP_int {c : UInt8} {r : List UInt8} (hd : (c :: r).all isDig = true) (hz : ¬ (1 < (c :: r).length ∧ c = 48)) :
    parP (c :: r) 0 = if BB < val (c :: r) 0 then ((0, 3) : Int × Int) else (((val (c :: r) 0 : Nat) : Int), 0) := by
  have h := negB_dig (r := r) (by simpa using (List.all_eq_true.1 hd c (by simp)))
  unfold parP
  rw [h.1, h.2]
  unfold bodyP
  have hw : wholeI (c :: r) 0 = ((c :: r).length : Nat) := by rw [wholeI, if_neg (by omega)]
  have hb : badL (c :: r) ((c :: r).length : Nat) = false := by
    unfold badL
    rw [Bool.or_eq_false_iff, Bool.and_eq_false_iff, decide_eq_false_iff_not, decide_eq_false_iff_not, beq_eq_false_iff_ne]
    refine ⟨by simp only [List.length_cons]; omega, ?_⟩
    by_cases h1 : 1 < (c :: r).length
    · right; intro e; exact hz ⟨h1, Option.some.inj e⟩
    · left; omega
  rw [hw, hb, run_all _ _ 0 false (.inr (Int.le_refl _)), hd, if_neg Bool.false_ne_true, if_pos rfl]
  exact fin_pos _
theorem parP_point {c : UInt8} {r b : List UInt8} {q : Nat} (hq : 1 ≤ q) (hd : (c :: r).all isDig = true) (hz : ¬ (1 < (c :: r).length ∧ c = 48)) (hb : b.all isDig = true) (hl : b.length = q) :
    parP ((c :: r) ++ 46 :: b) q = if BB < val ((c :: r) ++ b) 0 then ((0, 3) : Int × Int) else (((val ((c :: r) ++ b) 0 : Nat) : Int), 0) := by
  have h := negB_dig (r := r ++ 46 :: b) (by simpa using (List.all_eq_true.1 hd c (by simp)))
  unfold parP
  rw [List.cons_append, h.1, h.2, ← List.cons_append]
  unfold bodyP
  have hw : wholeI ((c :: r) ++ 46 :: b) q = ((c :: r).length : Nat) := by
    rw [wholeI, if_pos (by omega), List.length_append, List.length_cons (a := 46)]; omega
  have hbd : badL ((c :: r) ++ 46 :: b) ((c :: r).length : Nat) = false := by
    unfold badL
    rw [Bool.or_eq_false_iff, Bool.and_eq_false_iff, decide_eq_false_iff_not, decide_eq_false_iff_not, beq_eq_false_iff_ne]
    refine ⟨by simp only [List.length_cons]; omega, ?_⟩
    by_cases h1 : 1 < (c :: r).length
    · right; intro e; exact hz ⟨h1, Option.some.inj e⟩
    · left; omega
  rw [hw, hbd, run_at, hd, hb, if_neg Bool.false_ne_true, if_pos (by decide)]
  exact fin_pos _
/-- what package lexer's number answers -/
def pN (k : Int) (t : List UInt8) : Int × Int := if k = 5 then dparS (bs t) else if k = 3 then parP t 2 else if k = 4 then parP (t.take (t.length - 1)) 4 else parP t 0
def limK (k : Int) : Int := if k = 5 then 109572 else mostK k
def pL (k : Int) (t : List UInt8) : Int × Int := if (pN k t).2 = 0 ∧ limK k < (pN k t).1 then ((pN k t).1, 3) else pN k t
theorem filter_all {l : List UInt8} (h : l.all isDig = true) : l.filter isDig = l := by
  rw [List.filter_eq_self]; exact List.all_eq_true.1 h
theorem lim_val {k : Int} {t : List UInt8} {v : Nat} (hk : k ≠ 5) (hv : digsN t = v) (hp : pN k t = if BB < v then (0, 3) else ((v : Int), 0)) :
    ((pL k t).2 = 0 ∧ lxVal k t = pL k t) ∨ ((pL k t).2 ≠ 0 ∧ (lxVal k t).2 = 3) := by
  have hlim : limK k = mostK k := by rw [limK, if_neg hk]
  have hm : mostK k ≤ 1000000000000000 := by
    unfold mostK
    split
    · omega
    · split <;> omega
  have hx : lxVal k t = if mostK k < (v : Int) then (0, 3) else ((v : Int), 0) := by
    unfold lxVal; rw [if_neg hk, hv]
  unfold pL
  rw [hp, hx, hlim]
  by_cases h : BB < v
  · rw [if_pos h]
    right
    refine ⟨by simp, ?_⟩
    rw [if_pos]
    unfold BB at h; omega
  · rw [if_neg h]
    by_cases h2 : mostK k < (v : Int)
    · right; simp [h2]
    · left; simp [h2]
theorem digsN_app {a b : List UInt8} (ha : a.all isDig = true) (hb : b.all isDig = true) (c : UInt8) (hc : isDig c = false) : digsN (a ++ c :: b) = val (a ++ b) 0 := by
  unfold digsN
  rw [List.filter_append, filter_all ha, List.filter_cons_of_neg (by rw [hc]; decide), filter_all hb]
/-- at the head of a text: the parser's answer is the token's number -/
theorem pL_lx {c : UInt8} {r : List UInt8} (hc : isDig c = true) (hz : zeroB (c :: r) = false) :
    ((pL (lxKL (c :: r)).1 ((c :: r).take (lxKL (c :: r)).2)).2 = 0 ∧ lxVal (lxKL (c :: r)).1 ((c :: r).take (lxKL (c :: r)).2) = pL (lxKL (c :: r)).1 ((c :: r).take (lxKL (c :: r)).2)) ∨
    ((pL (lxKL (c :: r)).1 ((c :: r).take (lxKL (c :: r)).2)).2 ≠ 0 ∧ (lxVal (lxKL (c :: r)).1 ((c :: r).take (lxKL (c :: r)).2)).2 ≠ 0) := by
  generalize hl : c :: r = l at *
  cases hd : datedB l
  · have hW := lead_of_all (p := isDig) (l := l)
    have hWl := lead_of_le isDig l
    have hW1 : 1 ≤ lead_of isDig l := by rw [← hl]; exact lead_of_pos hc
    have hz' : ¬ (1 < lead_of isDig l ∧ c = 48) := by
      rintro ⟨h1, h2⟩
      have h0 : l[0]? = some c := by rw [← hl]; rfl
      rw [zeroB, hd, h0, h2] at hz
      simp [h1] at hz
    generalize hw : lead_of isDig l = W at *
    have hWlen : (l.take W).length = W := by rw [List.length_take]; omega
    obtain ⟨V, rfl⟩ : ∃ V, W = V + 1 := ⟨W - 1, by omega⟩
    have htk : l.take (V + 1) = c :: r.take V := by rw [← hl]; rfl
    rw [htk] at hW hWlen
    have hz2 : ¬ (1 < (c :: r.take V).length ∧ c = 48) := by rw [hWlen]; exact hz'
    cases h2 : pointB l 2
    · cases h4 : rateB l
      · have e : lxKL l = (2, V + 1) := by unfold lxKL; rw [hd, h2, h4, hw]; rfl
        rw [e]
        dsimp only
        rw [htk]
        have := lim_val (k := 2) (t := c :: r.take V) (v := val (c :: r.take V) 0) (by decide) (by rw [digsN, filter_all hW]) (parP_int hW hz2)
        rcases this with h | ⟨h, h'⟩
        · exact .inl h
        · exact .inr ⟨h, by omega⟩
      · have e : lxKL l = (4, V + 1 + 6) := by unfold lxKL; rw [hd, h2, h4, hw]; rfl
        rw [e]
        dsimp only
        rw [rateB, Bool.and_eq_true, beq_iff_eq, pointB_iff, hw] at h4
        obtain ⟨⟨p1, p2⟩, p3⟩ := h4
        have hlen := get_lt p3
        have hF := lead_of_all (p := isDig) (l := l.drop (V + 1 + 1))
        rw [p2] at hF
        have hFl : ((l.drop (V + 1 + 1)).take 4).length = 4 := by rw [List.length_take, List.length_drop]; omega
        have hsplit : l.take (V + 1 + 6) = (c :: r.take V) ++ 46 :: ((l.drop (V + 1 + 1)).take 4 ++ [37]) := by
          rw [← htk, show V + 1 + 6 = (V + 1) + (1 + (4 + 1)) from rfl, List.take_add, List.take_add (i := 1), List.drop_drop, List.take_add_one (i := 4)]
          rw [show (l.drop (V + 1)).take 1 = [46] by rw [List.take_one, List.head?_drop, p1]; rfl]
          rw [List.getElem?_drop, show V + 1 + 1 + 4 = V + 1 + 5 from by omega, p3]; rfl
        have hdl : (l.take (V + 1 + 6)).take ((l.take (V + 1 + 6)).length - 1) = (c :: r.take V) ++ 46 :: (l.drop (V + 1 + 1)).take 4 := by
          rw [hsplit]
          have : (c :: r.take V) ++ 46 :: ((l.drop (V + 1 + 1)).take 4 ++ [37]) = ((c :: r.take V) ++ 46 :: (l.drop (V + 1 + 1)).take 4) ++ [37] := by simp
          rw [this, List.length_append, List.length_singleton, Nat.add_sub_cancel, List.take_left' rfl]
        have hdg : digsN (l.take (V + 1 + 6)) = val ((c :: r.take V) ++ (l.drop (V + 1 + 1)).take 4) 0 := by
          rw [hsplit]
          unfold digsN
          rw [List.filter_append, filter_all hW, List.filter_cons_of_neg (by decide), List.filter_append, filter_all hF, List.filter_cons_of_neg (by decide)]
          simp
        have := lim_val (k := 4) (t := l.take (V + 1 + 6)) (v := val ((c :: r.take V) ++ (l.drop (V + 1 + 1)).take 4) 0) (by decide) hdg (by
          show parP ((l.take (V + 1 + 6)).take ((l.take (V + 1 + 6)).length - 1)) 4 = _
          rw [hdl]
          exact parP_point (q := 4) (by decide) hW hz2 hF hFl)
        rcases this with h | ⟨h, h'⟩
        · exact .inl h
        · exact .inr ⟨h, by omega⟩
    · have e : lxKL l = (3, V + 1 + 3) := by unfold lxKL; rw [hd, h2, hw]; rfl
      rw [e]
      dsimp only
      rw [pointB_iff, hw] at h2
      obtain ⟨p1, p2⟩ := h2
      have hF := lead_of_all (p := isDig) (l := l.drop (V + 1 + 1))
      have hF2 := lead_of_le isDig (l.drop (V + 1 + 1))
      rw [p2, List.length_drop] at hF2
      rw [p2] at hF
      have hFl : ((l.drop (V + 1 + 1)).take 2).length = 2 := by rw [List.length_take, List.length_drop]; omega
      have hsplit : l.take (V + 1 + 3) = (c :: r.take V) ++ 46 :: (l.drop (V + 1 + 1)).take 2 := by
        rw [← htk, show V + 1 + 3 = (V + 1) + (1 + 2) from rfl, List.take_add, List.take_add (i := 1), List.drop_drop]
        rw [show (l.drop (V + 1)).take 1 = [46] by rw [List.take_one, List.head?_drop, p1]; rfl]
        rfl
      rw [hsplit]
      have := lim_val (k := 3) (t := (c :: r.take V) ++ 46 :: (l.drop (V + 1 + 1)).take 2) (v := val ((c :: r.take V) ++ (l.drop (V + 1 + 1)).take 2) 0) (by decide) (digsN_app hW hF 46 dig_not46) (parP_point (q := 2) (by decide) hW hz2 hF hFl)
      rcases this with h | ⟨h, h'⟩
      · exact .inl h
      · exact .inr ⟨h, by omega⟩
  · have e : lxKL l = (5, 10) := by unfold lxKL; rw [hd]; rfl
    rw [e]
    dsimp only
    have e1 : pN 5 (l.take 10) = dparS (bs (l.take 10)) := rfl
    have e2 : lxVal 5 (l.take 10) = if (dparS (bs (l.take 10))).2 = 0 then dparS (bs (l.take 10)) else (0, 3) := rfl
    rw [pL, e1, e2]
    have hb : (dparS (bs (l.take 10))).2 = 0 → (dparS (bs (l.take 10))).1 ≤ 109572 := by
      unfold dparS
      split
      · unfold fromS
        split
        · rename_i h; intro _; exact (dayNo_bd h).2
        · intro h; exact absurd h (by decide)
      · intro h; exact absurd h (by decide)
    have hl5 : limK 5 = 109572 := rfl
    rw [hl5]
    generalize dparS (bs (l.take 10)) = p at *
    by_cases h : p.2 = 0
    · have := hb h
      rw [if_neg (by omega), if_pos h]
      exact .inl ⟨h, rfl⟩
    · rw [if_neg (fun x => h x.1), if_neg h]
      exact .inr ⟨h, by decide⟩

set_option maxRecDepth 100000 in
theorem pI_any (s : ByteArray) (hs : s.size ≤ 1000000) (w : World) :
    Calls Tryz.prog 77 #[.string s] w fun e w' => e = .returned (.tuple #[.int .i64 (parP (L s) 0).1, .int .i64 (parP (L s) 0).2]) ∧ Kept w w' := by
  have HP := Lib.hid (fun w => parse_num s 0 hs (by omega) (by omega) w)
  generalize parP (L s) 0 = r at *
  go_enter Tryz.func77, Tryz.ntmps77
  go_wp2_with (go_at_call 97; refine (HP.out _).mono ?_; rintro e w' ⟨rfl, hk⟩)
  go_ret2
  exact ⟨rfl, hk⟩
set_option maxRecDepth 100000 in
theorem pF_any (s : ByteArray) (p : Int) (p0 : 0 ≤ p) (p9 : p ≤ 9) (hs : s.size ≤ 1000000) (w : World) :
    Calls Tryz.prog 76 #[.string s, .int .i64 p] w fun e w' => e = .returned (.tuple #[.int .i64 (parP (L s) p).1, .int .i64 (parP (L s) p).2]) ∧ Kept w w' := by
  have hq : max 0 (min p 9) = p := by omega
  have HQ := Lib.hid (show ∀ w, Calls Tryz.prog 70 #[.int .i64 p] w fun e w' => e = .returned (.int .i64 p) ∧ w = w' from fun w => by have h := clamp_any p w; rwa [hq] at h)
  have HP := Lib.hid (fun w => parse_num s p hs p0 p9 w)
  clear hq
  generalize parP (L s) p = r at *
  go_enter Tryz.func76, Tryz.ntmps76
  go_wp2_with (first
    | (go_at_call 70; refine (HQ.out _).mono ?_; rintro e w' ⟨rfl, rfl⟩)
    | (go_at_call 97; refine (HP.out _).mono ?_; rintro e w' ⟨rfl, hk⟩))
  go_ret2
  exact ⟨rfl, hk⟩

theorem pL_cases (k : Int) (t : List UInt8) (n c : Int) (h : pN k t = (n, c)) : (c ≠ 0 ∧ pL k t = (n, c)) ∨ (c = 0 ∧ limK k < n ∧ pL k t = (n, 3)) ∨ (c = 0 ∧ n ≤ limK k ∧ pL k t = (n, 0)) := by
  unfold pL
  rw [h]
  by_cases hc : c = 0
  · subst hc
    by_cases hn : limK k < n
    · exact .inr (.inl ⟨rfl, hn, by simp [hn]⟩)
    · exact .inr (.inr ⟨rfl, by omega, by simp [hn]⟩)
  · exact .inl ⟨hc, by simp [hc]⟩
set_option maxRecDepth 100000 in
set_option maxHeartbeats 4000000 in
theorem number_any (k : Int) (s : ByteArray) (hk : k = 5 ∨ k = 3 ∨ k = 4 ∨ k = 2) (hs : s.size ≤ 1000000) (h0 : 1 ≤ s.size) (w : World) (hM : Mon w) :
    Calls Tryz.prog 62 #[.int .i64 k, .string s] w fun e w' => e = .returned (.tuple #[.int .i64 (pL k (L s)).1, .int .i64 (pL k (L s)).2]) ∧ Kept w w' := by
  obtain ⟨⟨n, c⟩, hp⟩ : ∃ p, pN k (L s) = p := ⟨_, rfl⟩
  have hc := pL_cases k (L s) n c hp
  rcases hk with rfl | rfl | rfl | rfl
  · have H := Lib.hid (fun w hM => parse_any s w hM)
    have e : dparS s = (n, c) := by rw [← hp]; show dparS s = dparS (bs (L s)); rw [bs_L]
    have e2 : limK 5 = 109572 := rfl
    rw [e] at H
    rw [e2] at hc
    clear hp e e2
    rcases hc with ⟨h1, h2⟩ | ⟨rfl, h1, h2⟩ | ⟨rfl, h1, h2⟩
    · have h1b : (c == 0) = false := by rw [beq_eq_false_iff_ne]; exact h1
      have HR := Lib.hid h2
      clear h1 h2
      go_enter Tryz.func62, Tryz.ntmps62
      go_wp2_with (go_at_call 75; refine (H.out _ hM).mono ?_; rintro e w' ⟨rfl, hk⟩)
      go_ret2
      exact ⟨from_ret HR.out, hk⟩
    all_goals
      have HR := Lib.hid h2
      clear h2
      go_enter Tryz.func62, Tryz.ntmps62
      go_wp2_with (go_at_call 75; refine (H.out _ hM).mono ?_; rintro e w' ⟨rfl, hk⟩)
      go_ret2
      exact ⟨from_ret HR.out, hk⟩
  · have H := Lib.hid (fun w => pF_any s 2 (by decide) (by decide) hs w)
    have e : parP (L s) 2 = (n, c) := hp
    have e2 : limK 3 = 1000000000000000 := rfl
    rw [e] at H
    rw [e2] at hc
    clear hp e e2
    rcases hc with ⟨h1, h2⟩ | ⟨rfl, h1, h2⟩ | ⟨rfl, h1, h2⟩
    · have h1b : (c == 0) = false := by rw [beq_eq_false_iff_ne]; exact h1
      have HR := Lib.hid h2
      clear h1 h2
      go_enter Tryz.func62, Tryz.ntmps62
      go_wp2_with (go_at_call 76; refine (H.out _).mono ?_; rintro e w' ⟨rfl, hk⟩)
      go_ret2
      exact ⟨from_ret HR.out, hk⟩
    all_goals
      have HR := Lib.hid h2
      clear h2
      go_enter Tryz.func62, Tryz.ntmps62
      go_wp2_with (go_at_call 76; refine (H.out _).mono ?_; rintro e w' ⟨rfl, hk⟩)
      go_ret2
      exact ⟨from_ret HR.out, hk⟩
  · have hx : (s.extract 0 (s.size - 1)).size ≤ 1000000 := by rw [ByteArray.size_extract]; omega
    have H := Lib.hid (fun w => pF_any (s.extract 0 (s.size - 1)) 4 (by decide) (by decide) hx w)
    have e : parP (L (s.extract 0 (s.size - 1))) 4 = (n, c) := by rw [ext_take]; exact hp
    have e2 : limK 4 = 1000000000 := rfl
    rw [e] at H
    rw [e2] at hc
    have i1 : (1 : Int) ≤ s.size := by omega
    have hnn : ((s.size : Int) - 1).toNat = s.size - 1 := by omega
    have HN := Lib.hid hnn
    clear hp e e2 hx hnn
    rcases hc with ⟨h1, h2⟩ | ⟨rfl, h1, h2⟩ | ⟨rfl, h1, h2⟩
    · have h1b : (c == 0) = false := by rw [beq_eq_false_iff_ne]; exact h1
      have HR := Lib.hid h2
      clear h1 h2
      go_enter Tryz.func62, Tryz.ntmps62
      go_wp2_with (go_at_call 76; (try rw [HN.out]); refine (H.out _).mono ?_; rintro e w' ⟨rfl, hk⟩)
      go_ret2
      exact ⟨from_ret HR.out, hk⟩
    all_goals
      have HR := Lib.hid h2
      clear h2
      go_enter Tryz.func62, Tryz.ntmps62
      go_wp2_with (go_at_call 76; (try rw [HN.out]); refine (H.out _).mono ?_; rintro e w' ⟨rfl, hk⟩)
      go_ret2
      exact ⟨from_ret HR.out, hk⟩
  · have H := Lib.hid (fun w => pI_any s hs w)
    have e : parP (L s) 0 = (n, c) := hp
    have e2 : limK 2 = 1000000000000 := rfl
    rw [e] at H
    rw [e2] at hc
    clear hp e e2
    rcases hc with ⟨h1, h2⟩ | ⟨rfl, h1, h2⟩ | ⟨rfl, h1, h2⟩
    · have h1b : (c == 0) = false := by rw [beq_eq_false_iff_ne]; exact h1
      have HR := Lib.hid h2
      clear h1 h2
      go_enter Tryz.func62, Tryz.ntmps62
      go_wp2_with (go_at_call 77; refine (H.out _).mono ?_; rintro e w' ⟨rfl, hk⟩)
      go_ret2
      exact ⟨from_ret HR.out, hk⟩
    all_goals
      have HR := Lib.hid h2
      clear h2
      go_enter Tryz.func62, Tryz.ntmps62
      go_wp2_with (go_at_call 77; refine (H.out _).mono ?_; rintro e w' ⟨rfl, hk⟩)
      go_ret2
      exact ⟨from_ret HR.out, hk⟩

def srV (r : SR) : Value := .tuple #[.agg #[.int .i64 r.k, .string (bs r.t), .int .i64 r.n, .int .i64 0], .int .i64 r.len, .int .i64 r.code]
set_option maxRecDepth 100000 in
set_option maxHeartbeats 1000000 in
theorem scanName_any (s : ByteArray) (hs : s.size ≤ 1000000) (w : World) :
    Calls Tryz.prog 43 #[.string s] w fun e w' => e = .returned (srV (lxName (L s))) ∧ Kept w w' := by
  have hle := lead_of_le wordB (L s)
  rw [L_length] at hle
  have H := Lib.hid (fun w => nameLen_any s hs w)
  by_cases h : 16 < lead_of wordB (L s)
  · have HR := Lib.hid (show lxName (L s) = .err 4 by rw [lxName, if_pos h])
    generalize lead_of wordB (L s) = k at *
    go_enter Tryz.func43, Tryz.ntmps43
    go_wp2_with (go_at_call 58; refine (H.out _).mono ?_; rintro e w' ⟨rfl, rfl⟩)
    refine bodyPost_ret (v := srV (lxName (L s))) (by rw [HR.out]; simp [srV, SR.err, bs, results, Tryz.results43, go_sem]) rfl ⟨rfl, ?_⟩
    exact (Kept.refl _).alloc _
  · have HR := Lib.hid (show lxName (L s) = ⟨0, 1, L (s.extract 0 (lead_of wordB (L s))), 0, lead_of wordB (L s)⟩ by rw [lxName, if_neg h, ext_take])
    generalize lead_of wordB (L s) = k at *
    go_enter Tryz.func43, Tryz.ntmps43
    go_wp2_with (go_at_call 58; refine (H.out _).mono ?_; rintro e w' ⟨rfl, rfl⟩)
    refine bodyPost_ret (v := srV (lxName (L s))) (by rw [HR.out]; simp [srV, results, Tryz.results43, go_sem]) rfl ⟨rfl, ?_⟩
    exact (Kept.refl _).alloc _
end Go.Proofs.YtdnjfpmngnkcfaaGreatDoor
/- What strings.IndexRune and strings.IndexAny answer at the quote and the newline. -/
namespace Go.Proofs.YtdnjfpmngnkcfaaGreatDoor
open Go.RowKit

theorem iterPos_of' {w : World} {k : Nat} {s : ByteArray} {p : Nat} (h : w.heap[k]? = some (.stringIter s p)) : w.iterPos k = p := by
  unfold World.iterPos; rw [h]
set_option maxRecDepth 100000 in
set_option maxHeartbeats 4000000 in
theorem idxRune_err (S : ByteArray) (ha : ∀ i (h : i < S.size), (S[i]'h).toNat < 128) (w : World) :
    Calls Tryz.prog 78 #[.string S, .int .i32 65533] w fun e w' => e = .returned (.int .i64 (-1)) ∧ Kept w w' := by
  have HA := Lib.hid ha
  clear ha
  go_enter Tryz.func78, Tryz.ntmps78
  go_wp2_with fail
  go_loopw [5, 6] (fun _ _ wr => ∃ pos : Nat, pos ≤ S.size ∧ wr = w.iter S pos) (fun _ _ wr => S.size - wr.iterPos w.heap.size)
  case atStart => exact ⟨0, Nat.zero_le _, rfl⟩
  case round =>
    obtain ⟨pos, hps, rfl⟩ := hrel
    by_cases hp : pos < S.size
    · have h128 := HA.out pos hp
      have hnx : ∀ ty, (Instr.next (.pointer (some ⟨w.heap.size, 0, none⟩)) true ty).run Tryz.prog (w.iter S pos) = _ := fun ty => run_next_ascii w S pos ty hp h128
      generalize (S[pos]'hp).toNat = c at *
      have hc : ((c : Int) == 65533) = false := by rw [beq_eq_false_iff_ne]; omega
      go_wp2_with fail
      go_roundw
      case rel => exact ⟨pos + 1, hp, rfl⟩
      case measure => simp; omega
    · have hnx : ∀ ty, (Instr.next (.pointer (some ⟨w.heap.size, 0, none⟩)) true ty).run Tryz.prog (w.iter S pos) = _ := fun ty => run_next_end w S pos ty hp
      go_wp2_with fail
      go_ret
      exact ⟨rfl, iter_kept (Kept.refl _) _ _⟩
set_option maxRecDepth 100000 in
set_option maxHeartbeats 4000000 in
theorem idxRune_bad (S : ByteArray) (r : Int) (h : 128 ≤ r) (h1 : r ≤ 1114111) (h2 : (r == 65533) = false) (hv : Lib.validRune r = false) (w : World) :
    Calls Tryz.prog 78 #[.string S, .int .i32 r] w fun e w' => e = .returned (.int .i64 (-1)) ∧ Kept w w' := by
  go_enter Tryz.func78, Tryz.ntmps78
  go_wp2_with (go_at_call 98; refine (Tryz.utf8_ValidRune _ _).mono ?_; rintro e w' ⟨rfl, rfl⟩; rw [hv])
  go_ret
  exact ⟨rfl, Kept.refl _⟩
theorem idxB_nil (s : ByteArray) (hs : L s = []) (c : Int) (w : World) :
    Calls Tryz.prog 48 #[.string s, .int .u8 c] w fun e w' => e = .returned (.int .i64 (-1)) ∧ w = w' :=
  (Tryz.strings_IndexByte s c w).mono fun _ _ ⟨he, hw⟩ => ⟨he.trans (by rw [show s.data.toList = [] from hs]; rfl), hw.symm⟩
set_option maxRecDepth 100000 in
set_option maxHeartbeats 4000000 in
theorem idxRune_high (S : ByteArray) (hS : S.size = 2) (hS1 : (S[1]'(by omega)).toNat < 128) (r : Int) (h : 128 ≤ r) (h1 : r ≤ 1114111) (h2 : (r == 65533) = false) (hv : Lib.validRune r = true)
    (E : ByteArray) (hE : Utf8.encode r = E) (n : Nat) (hn : E.size = n + 1) (n1 : 1 ≤ n) (n3 : n ≤ 3) (hl : (E[n]'(by omega)).toNat ≥ 128) (w : World) :
    Calls Tryz.prog 78 #[.string S, .int .i32 r] w fun e w' => e = .returned (.int .i64 (-1)) ∧ Kept w w' := by
  have hcv : ∀ W, (convert 21 9 (.int .i32 r)).run Tryz.prog W = _ := fun W => run_convert_int_string W _ _ .i32 r (by kernel_rfl) (by kernel_rfl)
  rw [hE] at hcv
  clear hE
  have hEl : n < E.size := by omega
  by_cases hn1 : n = 1
  · subst hn1
    have hSe : (L S).drop 2 = [] := List.drop_of_length_le (by rw [L_length]; omega)
    have b0 : (1 : Int) < (S.size : Int) := by omega
    have b1 : (1 : Int) < (E.size : Int) := by omega
    have hb : ((S[1]'(by omega)).toNat : Int) ≠ ((E[1]'(by omega)).toNat : Int) := by omega
    have hb' : (((S[1]'(by omega)).toNat : Int) != ((E[1]'(by omega)).toNat : Int)) = true := by simpa using hb
    go_enter Tryz.func78, Tryz.ntmps78
    go_wp2_with (go_at_call 98; refine (Tryz.utf8_ValidRune _ _).mono ?_; rintro e w' ⟨rfl, rfl⟩; rw [hv])
    go_step3
    go_wp2_with fail
    go_loopg [9, 10] 0 (fun _ a _ wx => a = .int .i64 1 ∧ wx = w')
    case atStart => exact ⟨by go_num, rfl⟩
    case round =>
      obtain ⟨rfl, rfl⟩ := hrel
      go_wp2_with fail
      go_step3
      go_wp2_with fail
      refine wp_region_kept (by kernel_rfl) (by kernel_rfl) ?_
      repeat (go_big_quiet_step (fail))
      refine wpQuiet_nil ?_
      rintro _ ⟨⟨wx, hx⟩, rfl⟩
      have hK := hx
      go_wp2_with fail
      refine wp_region_kept (by kernel_rfl) (by kernel_rfl) ?_
      have s1 : IntKind.i64.wrap (1 + 1) = 2 := by decide
      have s2 : (2 : Int) ≤ (S.size : Int) := by omega
      repeat (go_big_quiet_step ((go_at_call 48; exact KW.pure (idxB_nil _ (by first | rfl | (rw [L_extract]; simp [hSe])) _ _))))
      refine wpQuiet_nil ?_
      rintro _ ⟨⟨wy, hy⟩, rfl⟩
      go_wp2_with fail
      rw [Exit.noGoto_ret]
      go_wp2_with fail
      rw [Exit.noGoto_ret]
      go_ret
      exact ⟨rfl, hx.trans hy⟩
  · have hn1' : ¬ ((n : Int) < 2) := by omega
    go_enter Tryz.func78, Tryz.ntmps78
    go_wp2_with (go_at_call 98; refine (Tryz.utf8_ValidRune _ _).mono ?_; rintro e w' ⟨rfl, rfl⟩; rw [hv])
    go_step3
    go_wp2_with fail
    go_loopg [9, 10] 0 (fun _ a _ wx => a = .int .i64 n ∧ wx = w')
    case atStart => exact ⟨by go_num, rfl⟩
    case round =>
      obtain ⟨rfl, rfl⟩ := hrel
      go_wp2_with fail
      rw [Exit.noGoto_ret]
      go_ret
      exact ⟨rfl, Kept.refl _⟩

/-- the quote and the newline -/
def qn : ByteArray := ⟨#[34, 10]⟩
theorem qn_byte (c : UInt8) : Lib.indexByte (L qn) c = if c.toNat = 34 then 0 else if c.toNat = 10 then 1 else -1 := by
  by_cases h1 : c.toNat = 34
  · have : c = 34 := UInt8.toNat_inj.1 h1
    subst this; rfl
  · by_cases h2 : c.toNat = 10
    · have : c = 10 := UInt8.toNat_inj.1 h2
      subst this; rfl
    · rw [if_neg h1, if_neg h2]
      have e1 : ¬ c = 34 := fun e => h1 (by rw [e]; rfl)
      have e2 : ¬ c = 10 := fun e => h2 (by rw [e]; rfl)
      have e3 : (34 == c) = false := by rw [beq_eq_false_iff_ne]; exact fun e => e1 e.symm
      have e4 : (10 == c) = false := by rw [beq_eq_false_iff_ne]; exact fun e => e2 e.symm
      simp [Lib.indexByte, qn, L, e3, e4]
theorem valid_rune {r : Int} (h : Lib.validRune r = true) : Utf8.valid r = true := by
  unfold Lib.validRune at h
  unfold Utf8.valid
  revert h
  simp
  omega
theorem idxRune_any (r : Int) (h : 128 ≤ r) (h1 : r ≤ 1114111) (w : World) :
    Calls Tryz.prog 78 #[.string qn, .int .i32 r] w fun e w' => e = .returned (.int .i64 (-1)) ∧ Kept w w' := by
  by_cases he : r = 65533
  · subst he
    exact idxRune_err qn (by intro i h; match i, h with | 0, _ => exact (by decide : (34 : UInt8).toNat < 128) | 1, _ => exact (by decide : (10 : UInt8).toNat < 128)) w
  · have h2 : (r == 65533) = false := by rw [beq_eq_false_iff_ne]; exact he
    cases hv : Lib.validRune r
    · exact idxRune_bad qn r h h1 h2 hv w
    · obtain ⟨e1, e2, e3⟩ := encode_facts r (valid_rune hv) h
      obtain ⟨n, hn⟩ : ∃ n, (Utf8.encode r).size = n + 1 := ⟨(Utf8.encode r).size - 1, by omega⟩
      refine idxRune_high qn rfl (by decide) r h h1 h2 hv (Utf8.encode r) rfl n hn (by omega) (by omega) ?_ w
      have := e3 (by omega)
      have e : (Utf8.encode r).size - 1 = n := by omega
      simp only [e] at this
      exact this

theorem qn_contains (c : UInt8) : (L qn).contains c = !inStr c := by
  have e3 : (c == 34) = decide (c.toNat = 34) := by
    rw [Bool.eq_iff_iff, beq_iff_eq, decide_eq_true_eq, ← UInt8.toNat_inj]; rfl
  have e4 : (c == 10) = decide (c.toNat = 10) := by
    rw [Bool.eq_iff_iff, beq_iff_eq, decide_eq_true_eq, ← UInt8.toNat_inj]; rfl
  show ([34, 10] : List UInt8).contains c = _
  rw [List.contains_cons, List.contains_cons, e3, e4]
  unfold inStr
  by_cases h1 : c.toNat = 34 <;> by_cases h2 : c.toNat = 10 <;> simp [h1, h2]
/-- the first quote or newline, or -1 -/
def idxQ (l : List UInt8) : Int := if lead_of inStr l < l.length then (lead_of inStr l : Nat) else -1
theorem noAny_lead (l : List UInt8) (i : Nat) (h : i ≤ lead_of inStr l) : Lib.NoAny l (L qn) i := by
  intro j b hj hb
  obtain ⟨c, hc, hp⟩ := lead_of_in (show j < lead_of inStr l by omega)
  rw [hb] at hc
  have : b = c := Option.some.inj hc
  rw [qn_contains, this, hp]; rfl
theorem indexAny_lead (l : List UInt8) : Lib.indexAny l (L qn) = idxQ l := by
  unfold idxQ
  have hle := lead_of_le inStr l
  split
  · rename_i h
    rcases lead_of_end inStr l with he | ⟨c, he, hc⟩
    · rw [List.getElem?_eq_none_iff] at he; omega
    · exact Lib.indexAny_hit (noAny_lead l _ (Nat.le_refl _)) he (by rw [qn_contains, hc]; rfl)
  · rename_i h
    exact Lib.indexAny_none (noAny_lead l _ (by omega))
theorem inStr_iff (c : UInt8) : inStr c = true ↔ c.toNat ≠ 34 ∧ c.toNat ≠ 10 := by simp [inStr]

theorem get_bang {s : ByteArray} {i : Nat} {c : UInt8} (h : (L s)[i]? = some c) : s.get! i = c := by
  have hi : i < s.data.size := by
    have := get_lt h
    rwa [L_length] at this
  have h2 : s.data[i]? = some c := by rw [← Array.getElem?_toList]; exact h
  show s.data[i]! = c
  rw [getElem!_def, h2]
/-- the bytes of a rune that is not ASCII -/
theorem decode_span (s : ByteArray) (pos : Nat) (hp : pos < s.size) (hb : 128 ≤ (s[pos]'hp).toNat) :
    128 ≤ (Utf8.decode s pos).1 ∧ (Utf8.decode s pos).1 ≤ 1114111 ∧ 1 ≤ (Utf8.decode s pos).2 ∧ pos + (Utf8.decode s pos).2 ≤ s.size ∧ ∀ j, pos ≤ j → j < pos + (Utf8.decode s pos).2 → ∀ c, (L s)[j]? = some c → 128 ≤ c.toNat := by
  have h0 := L_get s pos hp
  have g0 := get_bang h0
  rw [Lib.decode_at, g0]
  have hj0 : ∀ j c, pos ≤ j → j < pos + 1 → (L s)[j]? = some c → 128 ≤ c.toNat := by
    intro j c h1 h2 hc
    obtain rfl : j = pos := by omega
    rw [h0] at hc
    have : s[j] = c := Option.some.inj hc
    rw [← this]; exact hb
  have lt := (s[pos]'hp).toNat_lt
  rcases Lib.decodeN_shape (s.size - pos) (s[pos]'hp).toNat (s.get! (pos + 1)).toNat (s.get! (pos + 2)).toNat (s.get! (pos + 3)).toNat with ⟨h, e⟩ | ⟨h1, h2, h3, h4, e⟩ | ⟨h1, h2, h3, h4, h5, h6, e⟩ | ⟨h1, h2, h3, h4, h5, h6, h7, e⟩ | e
  · omega
  all_goals rw [e]; dsimp only
  · refine ⟨by omega, by omega, by omega, by omega, fun j a1 a2 c hc => ?_⟩
    have gc := get_bang hc
    rcases (show j = pos ∨ j = pos + 1 by omega) with rfl | rfl
    · exact hj0 _ c (by omega) (by omega) hc
    · rw [gc] at h3; omega
  · refine ⟨by omega, by omega, by omega, by omega, fun j a1 a2 c hc => ?_⟩
    have gc := get_bang hc
    rcases (show j = pos ∨ j = pos + 1 ∨ j = pos + 2 by omega) with rfl | rfl | rfl
    · exact hj0 _ c (by omega) (by omega) hc
    · rw [gc] at h3; omega
    · rw [gc] at h4; omega
  · refine ⟨by omega, by omega, by omega, by omega, fun j a1 a2 c hc => ?_⟩
    have gc := get_bang hc
    rcases (show j = pos ∨ j = pos + 1 ∨ j = pos + 2 ∨ j = pos + 3 by omega) with rfl | rfl | rfl | rfl
    · exact hj0 _ c (by omega) (by omega) hc
    · rw [gc] at h3; omega
    · rw [gc] at h4; omega
    · rw [gc] at h5; omega
  · exact ⟨by decide, by decide, by decide, by omega, fun j a1 a2 c hc => hj0 j c a1 a2 hc⟩
theorem lead_more {l : List UInt8} {a b : Nat} (h : a ≤ lead_of inStr l) (hb : b ≤ l.length) (hj : ∀ j, a ≤ j → j < b → ∀ c, l[j]? = some c → inStr c = true) : b ≤ lead_of inStr l := by
  rcases Nat.lt_or_ge (lead_of inStr l) b with hlt | hge
  · exfalso
    rcases lead_of_end inStr l with he | ⟨c, he, hc⟩
    · rw [List.getElem?_eq_none_iff] at he; omega
    · rw [hj _ h hlt c he] at hc; cases hc
  · exact hge

theorem useSet_any (n : Int) (w : World) : Calls Tryz.prog 79 #[.int .i64 n] w fun e w' => e = .returned (.bool (decide (8 < n))) ∧ w = w' :=
  (Tryz.strings_shouldUseASCIISet n w).mono fun _ _ ⟨he, hw⟩ => ⟨he, hw.symm⟩
theorem idxRune_low (c : UInt8) (hc : c.toNat < 128) (z : Int) (hz : (if c.toNat = 34 then (0 : Int) else if c.toNat = 10 then 1 else -1) = z) (w : World) :
    Calls Tryz.prog 78 #[.string qn, .int .i32 c.toNat] w fun e w' => e = .returned (.int .i64 z) ∧ Kept w w' :=
  (Tryz.strings_IndexRune_ascii qn c.toNat w (by omega) (by omega)).mono fun _ _ ⟨he, hw⟩ => ⟨he.trans (by
    have e : ((c.toNat : Int)).toNat.toUInt8 = c := by simp
    rw [e, show qn.data.toList = L qn from rfl, qn_byte, hz]), hw ▸ Kept.refl _⟩
set_option maxRecDepth 100000 in
set_option maxHeartbeats 4000000 in
theorem idxAny_short (s : ByteArray) (h8 : s.size ≤ 8) (w : World) :
    Calls Tryz.prog 63 #[.string s, .string qn] w fun e w' => e = .returned (.int .i64 (idxQ (L s))) ∧ Kept w w' := by
  have hle := lead_of_le inStr (L s)
  rw [L_length] at hle
  have hemp : (qn.toList == []) = false := by rw [toList_L]; rfl
  have hemp2 : qn.toList.isEmpty = false := by rw [toList_L]; rfl
  have hsz : (qn.size : Int) = 2 := rfl
  have HI := Lib.hid (fun r h h1 w => idxRune_any r h h1 w)
  have HB := Lib.hid (fun c hc z hz w => idxRune_low c hc z hz w)
  generalize qn = Q at *
  have h8z : decide ((8 : Int) < (s.size : Int)) = false := decide_eq_false (by omega)
  go_enter Tryz.func63, Tryz.ntmps63
  go_wp2_with (go_at_call 79; refine (useSet_any _ _).mono ?_; rintro e w' ⟨rfl, rfl⟩; rw [h8z])
  clear hemp hemp2
  go_loopw [9, 10] (fun _ _ wr => ∃ pos : Nat, pos ≤ s.size ∧ wr.heap[w.heap.size]? = some (.stringIter s pos) ∧ Kept w wr ∧ pos ≤ lead_of inStr (L s)) (fun _ _ wr => s.size - wr.iterPos w.heap.size)
  case atStart => exact ⟨0, Nat.zero_le _, World.iter_heap _ _ _, (Kept.refl _).alloc _, Nat.zero_le _⟩
  case round =>
    obtain ⟨pos, hps, hit, hK, hno⟩ := hrel
    have HIT0 := Lib.hid hit
    have hlt := (show w.heap.size < wr.heap.size from by
      rcases Nat.lt_or_ge w.heap.size wr.heap.size with h | h
      · exact h
      · rw [Array.getElem?_eq_none h] at hit; cases hit)
    by_cases hp : pos < s.size
    · by_cases ha : (s[pos]'hp).toNat < 128
      · have hnx : ∀ ty, (Instr.next (.pointer (some ⟨w.heap.size, 0, none⟩)) true ty).run Tryz.prog wr = _ := fun ty => Lib.run_next_ascii_at wr w.heap.size s pos ty hit hp ha
        have hIK : Kept w (wr.iterAt w.heap.size s (pos + 1)) := Lib.below_iterAt hK (Nat.le_refl _) _ _
        have hIT := Lib.iterAt_heap wr w.heap.size s pos (pos + 1) hit
        have hIS : w.heap.size < (wr.iterAt w.heap.size s (pos + 1)).heap.size := by rw [Lib.iterAt_size]; exact hlt
        have hg := L_get s pos hp
        by_cases hin : inStr (s[pos]'hp) = true
        · have hi2 := (inStr_iff _).1 hin
          have hno' : pos + 1 ≤ lead_of inStr (L s) := lead_more hno (by rw [L_length]; exact hp) (fun j a1 a2 c hc => by
            obtain rfl : j = pos := by omega
            rw [hg] at hc
            have : s[j] = c := Option.some.inj hc
            rw [← this]; exact hin)
          have HC := Lib.hid (fun w => HB.out (s[pos]'hp) ha (-1) (by rw [if_neg hi2.1, if_neg hi2.2]) w)
          clear hi2 hin hg hit hK
          generalize (s[pos]'hp) = c at *
          generalize wr.iterAt w.heap.size s (pos + 1) = W at *
          have HIK := Lib.hid hIK
          have HIT := Lib.hid hIT
          clear hIK hIT
          go_wp2_with (go_at_call 78; refine (HC.out _).mono ?_; rintro e w5 ⟨rfl, k5⟩)
          have hIT2 := (k5.block _ hIS).trans HIT.out
          go_roundw
          case rel => exact ⟨pos + 1, hp, hIT2, HIK.out.trans k5, hno'⟩
          case measure => rw [iterPos_of' hIT2, iterPos_of' HIT0.out]; omega
        · have hend : lead_of inStr (L s) = pos := by
            rcases Nat.lt_or_ge pos (lead_of inStr (L s)) with hlt2 | hge
            · obtain ⟨c, hc, hpc⟩ := lead_of_in hlt2
              rw [hg] at hc
              have : s[pos] = c := Option.some.inj hc
              rw [← this] at hpc
              exact absurd hpc hin
            · omega
          have HR := Lib.hid (show idxQ (L s) = (pos : Int) by rw [idxQ, if_pos (by rw [hend, L_length]; exact hp), hend])
          obtain ⟨z, hz, hz0⟩ : ∃ z : Int, (if (s[pos]'hp).toNat = 34 then (0 : Int) else if (s[pos]'hp).toNat = 10 then 1 else -1) = z ∧ 0 ≤ z := by
            refine ⟨_, rfl, ?_⟩
            split
            · omega
            · split
              · omega
              · rename_i q1 q2
                exact absurd ((inStr_iff _).2 ⟨q1, q2⟩) hin
          have HC := Lib.hid (fun w => HB.out (s[pos]'hp) ha z hz w)
          clear hin hg hit hK hz hend
          generalize (s[pos]'hp) = c at *
          generalize wr.iterAt w.heap.size s (pos + 1) = W at *
          have HIK := Lib.hid hIK
          clear hIK hIT
          go_wp2_with (go_at_call 78; refine (HC.out _).mono ?_; rintro e w5 ⟨rfl, k5⟩)
          go_ret
          exact ⟨ret_int HR.out.symm, HIK.out.trans k5⟩
      · obtain ⟨d1, d2, d3, d4, d5⟩ := decode_span s pos hp (by omega)
        have hnx : ∀ ty, (Instr.next (.pointer (some ⟨w.heap.size, 0, none⟩)) true ty).run Tryz.prog wr = _ := fun ty => Lib.run_next_any_at wr w.heap.size s pos ty hit hp
        generalize (Utf8.decode s pos).1 = r at *
        generalize (Utf8.decode s pos).2 = k at *
        have hIK : Kept w (wr.iterAt w.heap.size s (pos + k)) := Lib.below_iterAt hK (Nat.le_refl _) _ _
        have hIT := Lib.iterAt_heap wr w.heap.size s pos (pos + k) hit
        have hIS : w.heap.size < (wr.iterAt w.heap.size s (pos + k)).heap.size := by rw [Lib.iterAt_size]; exact hlt
        have hno' : pos + k ≤ lead_of inStr (L s) := lead_more hno (by rw [L_length]; exact d4) (fun j a1 a2 c hc => by
          have := d5 j a1 a2 c hc
          exact (inStr_iff _).2 ⟨by omega, by omega⟩)
        have HC := Lib.hid (fun w => HI.out r (by omega) (by omega) w)
        clear d5 hit hK ha
        generalize wr.iterAt w.heap.size s (pos + k) = W at *
        have HIK := Lib.hid hIK
        have HIT := Lib.hid hIT
        clear hIK hIT
        go_wp2_with (go_at_call 78; refine (HC.out _).mono ?_; rintro e w5 ⟨rfl, k5⟩)
        have hIT2 := (k5.block _ hIS).trans HIT.out
        go_roundw
        case rel => exact ⟨pos + k, d4, hIT2, HIK.out.trans k5, hno'⟩
        case measure => rw [iterPos_of' hIT2, iterPos_of' HIT0.out]; omega
    · have HR := Lib.hid (show idxQ (L s) = -1 by rw [idxQ, if_neg (by rw [L_length]; omega)])
      have hnx : ∀ ty, (Instr.next (.pointer (some ⟨w.heap.size, 0, none⟩)) true ty).run Tryz.prog wr = _ := fun ty => Lib.run_next_end_at wr w.heap.size s pos ty hit hp
      have HK := Lib.hid hK
      clear hit hK
      go_wp2_with fail
      go_ret
      exact ⟨ret_int HR.out.symm, HK.out⟩
theorem asciiZero : ∀ w, (zeroValue 108).run Tryz.prog w = .ok (.agg (Array.replicate 256 (.bool false))) w :=
  (zero_of_info (P := Tryz.prog) (show (Tryz.prog.info? 108).map (fun i => (i.zero, i.size)) = some (some (.agg (Array.replicate 256 (.bool false))), 256) by kernel_rfl)).1
theorem idxAny_any (s : ByteArray) (hs : s.size ≤ 1000000) (w : World) :
    Calls Tryz.prog 63 #[.string s, .string qn] w fun e w' => e = .returned (.int .i64 (idxQ (L s))) ∧ Kept w w' := by
  by_cases h8 : s.size ≤ 8
  · exact idxAny_short s h8 w
  · refine (Tryz.strings_IndexAny_long asciiZero s qn w (by decide) (by omega) (by omega) (by decide) (fun j b hb => ?_)).mono ?_
    · match j, hb with
      | 0, hb => have : (34 : UInt8) = b := Option.some.inj hb
                 subst this; decide
      | 1, hb => have : (10 : UInt8) = b := Option.some.inj hb
                 subst this; decide
      | j + 2, hb => exact absurd (get_lt (l := L qn) hb) (by show ¬ j + 2 < 2; omega)
    · rintro e w' ⟨rfl, rfl⟩
      exact ⟨ret_int (indexAny_lead (L s)), ((Kept.refl _).alloc _).alloc _⟩
end Go.Proofs.YtdnjfpmngnkcfaaGreatDoor
/- What scanString of package lexer computes. -/
namespace Go.Proofs.YtdnjfpmngnkcfaaGreatDoor
open Go.RowKit

theorem lxStr_five {l : List UInt8} (h : ¬ (l.drop 1)[lead_of inStr (l.drop 1)]? = some 34) : lxStr l = .err 5 := by rw [lxStr, if_neg h]
theorem lxStr_two {l : List UInt8} (h : (l.drop 1)[lead_of inStr (l.drop 1)]? = some 34) (h2 : ((l.drop 1).take (lead_of inStr (l.drop 1))).all printB = false) : lxStr l = .err 2 := by
  rw [lxStr, if_pos h, h2]; rfl
theorem lxStr_four {l : List UInt8} (h : (l.drop 1)[lead_of inStr (l.drop 1)]? = some 34) (h2 : ((l.drop 1).take (lead_of inStr (l.drop 1))).all printB = true) (h3 : 64 < lead_of inStr (l.drop 1)) : lxStr l = .err 4 := by
  rw [lxStr, if_pos h, if_pos h2, if_pos h3]
theorem lxStr_ok {l : List UInt8} (h : (l.drop 1)[lead_of inStr (l.drop 1)]? = some 34) (h2 : ((l.drop 1).take (lead_of inStr (l.drop 1))).all printB = true) (h3 : ¬ 64 < lead_of inStr (l.drop 1)) :
    lxStr l = ⟨0, 6, (l.drop 1).take (lead_of inStr (l.drop 1)), 0, lead_of inStr (l.drop 1) + 2⟩ := by
  rw [lxStr, if_pos h, if_pos h2, if_neg h3]
theorem all_take_succ {p : UInt8 → Bool} {T : ByteArray} {k : Nat} (hk : k < T.size) (h : ((L T).take k).all p = true) (hp : p (T[k]'hk) = true) : ((L T).take (k + 1)).all p = true := by
  rw [L_take T k hk, List.all_append, h]; simp [hp]
theorem all_not {p : UInt8 → Bool} {T : ByteArray} {k : Nat} (hk : k < T.size) (hp : p (T[k]'hk) = false) : (L T).all p = false := by
  rw [← List.take_append_drop k (L T), List.all_append, L_drop T k hk, List.all_cons, hp]; simp

set_option maxRecDepth 100000 in
set_option maxHeartbeats 4000000 in
theorem scanString_any (s : ByteArray) (hs : s.size ≤ 1000000) (h0 : 1 ≤ s.size) (w : World) :
    Calls Tryz.prog 46 #[.string s] w fun e w' => e = .returned (srV (lxStr (L s))) ∧ Kept w w' := by
  have hx : (s.extract 1 s.size).size ≤ 1000000 := by rw [ByteArray.size_extract]; omega
  have H := fun w => idxAny_any (s.extract 1 s.size) hx w
  rw [ext_drop] at H
  have hle := lead_of_le inStr ((L s).drop 1)
  have hen := lead_of_end inStr ((L s).drop 1)
  rw [List.length_drop, L_length] at hle
  have h0i : (1 : Int) ≤ s.size := by omega
  by_cases hend : lead_of inStr ((L s).drop 1) < s.size - 1
  · have hq : idxQ ((L s).drop 1) = (lead_of inStr ((L s).drop 1) : Nat) := by rw [idxQ, if_pos (by rw [List.length_drop, L_length]; exact hend)]
    have R5 := Lib.hid (fun h => lxStr_five (l := L s) h)
    have R2 := Lib.hid (fun h h2 => lxStr_two (l := L s) h h2)
    have R4 := Lib.hid (fun h h2 h3 => lxStr_four (l := L s) h h2 h3)
    have R0 := Lib.hid (fun h h2 h3 => lxStr_ok (l := L s) h h2 h3)
    have hqq : ∀ c, ((L s).drop 1)[lead_of inStr ((L s).drop 1)]? = some c → inStr c = false := by
      intro c hc
      rcases hen with he | ⟨d, hd, hp⟩
      · rw [he] at hc; cases hc
      · rw [hd] at hc
        have : d = c := Option.some.inj hc
        rw [← this]; exact hp
    rw [hq] at H
    clear hq hen
    have hT : L (s.extract 1 (1 + lead_of inStr ((L s).drop 1))) = ((L s).drop 1).take (lead_of inStr ((L s).drop 1)) := by rw [L_extract]; simp
    rw [← hT] at R2 R4 R0
    clear hT
    generalize lead_of inStr ((L s).drop 1) = j at *
    have hg : ((L s).drop 1)[j]? = some (s[1 + j]'(by omega)) := by rw [List.getElem?_drop]; exact L_get s (1 + j) (by omega)
    have hin := hqq _ hg
    clear hqq
    have HH := Lib.hid H
    clear H
    have hi1 : (1 : Int) + j < s.size := by omega
    have HG := Lib.hid hg
    clear hg
    by_cases h10 : (s[1 + j]'(by omega)).toNat = 10
    · have HR := Lib.hid (R5.out (by
        rw [HG.out]
        intro e
        have : s[1 + j] = 34 := Option.some.inj e
        rw [this] at h10; exact absurd h10 (by decide)))
      have h10b : (((s[1 + j]'(by omega)).toNat : Int) == 10) = true := by rw [beq_iff_eq]; omega
      clear h10 hin
      go_enter Tryz.func46, Tryz.ntmps46
      go_wp2_with (go_at_call 63; refine (HH.out _).mono ?_; rintro e w' ⟨rfl, k1⟩; have B := k1.blk1; have b := B.cell; have l := B.lt; have f := B.frozen)
      refine bodyPost_ret (v := srV (lxStr (L s))) (by rw [HR.out]; simp [srV, SR.err, bs, results, Tryz.results46, go_sem, b]) rfl ⟨rfl, ?_⟩
      repeat refine Kept.setCell ?_ (by simp only; omega) _
      exact ((Kept.refl _).alloc _).trans k1
    · have h34 : (s[1 + j]'(by omega)).toNat = 34 := by
        rcases Nat.lt_or_ge 34 (s[1 + j]'(by omega)).toNat with h | h
        · exact absurd ((inStr_iff _).2 ⟨by omega, h10⟩) (by rw [hin]; decide)
        · by_cases e : (s[1 + j]'(by omega)).toNat = 34
          · exact e
          · exact absurd ((inStr_iff _).2 ⟨e, h10⟩) (by rw [hin]; decide)
      have HQ := Lib.hid (show ((L s).drop 1)[j]? = some 34 by
        rw [HG.out]; congr 1; exact UInt8.toNat_inj.1 h34)
      have h10b : (((s[1 + j]'(by omega)).toNat : Int) == 10) = false := by rw [beq_eq_false_iff_ne]; omega
      have hTs : (s.extract 1 (1 + j)).size = j := by rw [ByteArray.size_extract]; omega
      have hj2 : (1 : Int) + (j : Int) ≤ s.size := by omega
      clear h10 hin h34
      have HTs := Lib.hid hTs
      clear hTs
      go_enter Tryz.func46, Tryz.ntmps46
      go_wp2_with (go_at_call 63; refine (HH.out _).mono ?_; rintro e w' ⟨rfl, k1⟩)
      have e26 : min (1 + j) s.size - 1 = j := by omega
      rw [e26]
      clear e26
      have hTs := HTs.out
      generalize s.extract 1 (1 + j) = T at *
      clear HTs
      have HK := Lib.hid (((Kept.refl w).alloc (.cells #[.int .i64 0, .string ⟨#[]⟩, .int .i64 0, .int .i64 0] 73)).trans k1)
      have B := k1.blk1
      have b := B.cell
      have l := B.lt
      have f := B.frozen
      clear k1 B
      go_loop [27] (fun x => ∃ k : Nat, x = .int .i64 (k : Int) ∧ k ≤ j ∧ ((L T).take k).all printB = true) (fun x => j - (intOf x).toNat)
      case atStart => exact ⟨0, rfl, Nat.zero_le _, rfl⟩
      case round =>
        obtain ⟨k, rfl, hk, hall⟩ := hrel
        by_cases hlt : k < j
        · have hkT : k < T.size := by omega
          have hki : (k : Int) < T.size := by omega
          rcases (show (printB (T[k]'hkT) = true ∧ 32 ≤ (T[k]'hkT).toNat ∧ (T[k]'hkT).toNat ≤ 126) ∨ (printB (T[k]'hkT) = false ∧ (T[k]'hkT).toNat < 32) ∨ (printB (T[k]'hkT) = false ∧ 32 ≤ (T[k]'hkT).toNat ∧ 126 < (T[k]'hkT).toNat) by
            unfold printB
            by_cases a : 32 ≤ (T[k]'hkT).toNat <;> by_cases c : (T[k]'hkT).toNat ≤ 126 <;> simp [a, c] <;> omega) with ⟨h1, h2, h3⟩ | ⟨h1, h2⟩ | ⟨h1, h2, h3⟩
          · have HA := Lib.hid (all_take_succ hkT hall h1)
            clear hall h1
            go_wp2_with fail
            go_round
            case rel => exact ⟨k + 1, by go_num, hlt, HA.out⟩
            case measure => simp [intOf]; omega
          all_goals
            have HR := Lib.hid (R2.out HQ.out (all_not hkT h1))
            clear hall h1
            go_wp2_with fail
            refine bodyPost_ret (v := srV (lxStr (L s))) (by rw [HR.out]; simp [srV, SR.err, bs, results, Tryz.results46, go_sem, b]) rfl ⟨rfl, ?_⟩
            repeat refine Kept.setCell ?_ (by simp only; omega) _
            exact HK.out
        · have hall2 : (L T).all printB = true := by
            rw [List.take_of_length_le (by rw [L_length]; omega)] at hall; exact hall
          clear hall
          by_cases h64 : 64 < j
          · have HR := Lib.hid (R4.out HQ.out hall2 h64)
            clear hall2
            go_wp2_with fail
            refine bodyPost_ret (v := srV (lxStr (L s))) (by rw [HR.out]; simp [srV, SR.err, bs, results, Tryz.results46, go_sem, b]) rfl ⟨rfl, ?_⟩
            repeat refine Kept.setCell ?_ (by simp only; omega) _
            exact HK.out
          · have HR := Lib.hid (R0.out HQ.out hall2 h64)
            clear hall2
            go_wp2_with fail
            refine bodyPost_ret (v := srV (lxStr (L s))) (by rw [HR.out]; simp [srV, results, Tryz.results46, go_sem, b]) rfl ⟨rfl, ?_⟩
            repeat refine Kept.setCell ?_ (by simp only; omega) _
            exact HK.out
  · have hq : idxQ ((L s).drop 1) = -1 := by rw [idxQ, if_neg (by rw [List.length_drop, L_length]; exact hend)]
    have HR := Lib.hid (lxStr_five (l := L s) (by
      rw [List.getElem?_eq_none (by rw [List.length_drop, L_length]; omega)]
      intro e; cases e))
    rw [hq] at H
    clear hq hen hle
    have HH := Lib.hid H
    clear H
    go_enter Tryz.func46, Tryz.ntmps46
    go_wp2_with (go_at_call 63; refine (HH.out _).mono ?_; rintro e w' ⟨rfl, k1⟩; have B := k1.blk1; have b := B.cell; have l := B.lt; have f := B.frozen)
    refine bodyPost_ret (v := srV (lxStr (L s))) (by rw [HR.out]; simp [srV, SR.err, bs, results, Tryz.results46, go_sem, b]) rfl ⟨rfl, ?_⟩
    repeat refine Kept.setCell ?_ (by simp only; omega) _
    exact ((Kept.refl _).alloc _).trans k1
end Go.Proofs.YtdnjfpmngnkcfaaGreatDoor
/- What scanNumber of package lexer computes. -/
namespace Go.Proofs.YtdnjfpmngnkcfaaGreatDoor
open Go.RowKit

/-- kind and length of the number at the head -/
def KN (l : List UInt8) (K : Int) (N : Nat) : Prop := lxKL l = (K, N) ∧ zeroB l = false ∧ N ≤ l.length ∧ 1 ≤ N
theorem lx_zero {l : List UInt8} (h : zeroB l = true) : lxNum l = .err 2 := by rw [lxNum, if_pos h]
theorem lx_glued {l : List UInt8} {K : Int} {N : Nat} {c : UInt8} (h : KN l K N) (hc : l[N]? = some c) (hg : gluedB c = true) : lxNum l = .err 2 := by
  rw [lxNum, h.1, h.2.1, hc]
  simp [gluedAt, hg]
theorem lx_val {l : List UInt8} {K n c : Int} {N : Nat} (h : KN l K N) (hg : gluedAt l[N]? = false) (hd : ∃ a r, l = a :: r ∧ isDig a = true) (hp : pL K (l.take N) = (n, c)) :
    (c = 0 ∧ lxNum l = ⟨0, K, l.take N, n, N⟩) ∨ (c ≠ 0 ∧ lxNum l = .err 3) := by
  obtain ⟨a, r, rfl, ha⟩ := hd
  have hx := pL_lx (r := r) ha h.2.1
  have e1 : (lxKL (a :: r)).1 = K := by rw [h.1]
  have e2 : (lxKL (a :: r)).2 = N := by rw [h.1]
  rw [e1, e2, hp] at hx
  unfold lxNum
  rw [h.2.1, e1, e2, hg]
  rcases hx with ⟨h1, h2⟩ | ⟨h1, h2⟩
  · left
    have hc0 : c = 0 := h1
    subst hc0
    exact ⟨rfl, by rw [h2]; simp⟩
  · right
    exact ⟨h1, by simp [h2]⟩
theorem decB_point (l : List UInt8) (q : Nat) : decB (l.drop (lead_of isDig l)) q = pointB l q := by
  unfold decB pointB
  rw [List.head?_drop, List.drop_drop]
theorem glue_cases (c : UInt8) :
    (gluedB c = true ∧ lowB c = true) ∨ (gluedB c = true ∧ lowB c = false ∧ 65 ≤ c.toNat ∧ c.toNat ≤ 90) ∨
    (gluedB c = true ∧ lowB c = false ∧ c.toNat < 65 ∧ isDig c = true) ∨ (gluedB c = true ∧ lowB c = false ∧ c.toNat < 65 ∧ isDig c = false ∧ ((c.toNat : Int) == 95) = false ∧ ((c.toNat : Int) == 46) = true) ∨
    (gluedB c = true ∧ lowB c = false ∧ 65 ≤ c.toNat ∧ 90 < c.toNat ∧ isDig c = false ∧ ((c.toNat : Int) == 95) = true) ∨
    (gluedB c = false ∧ lowB c = false ∧ c.toNat < 65 ∧ isDig c = false ∧ ((c.toNat : Int) == 95) = false ∧ ((c.toNat : Int) == 46) = false) ∨
    (gluedB c = false ∧ lowB c = false ∧ 65 ≤ c.toNat ∧ 90 < c.toNat ∧ isDig c = false ∧ ((c.toNat : Int) == 95) = false ∧ ((c.toNat : Int) == 46) = false) := by
  have e : ∀ z : Nat, ((c.toNat : Int) == (z : Int)) = decide (c.toNat = z) := by
    intro z; rw [Bool.eq_iff_iff, beq_iff_eq, decide_eq_true_eq]; omega
  have e95 := e 95
  have e46 := e 46
  rw [show ((95 : Nat) : Int) = 95 from rfl] at e95
  rw [show ((46 : Nat) : Int) = 46 from rfl] at e46
  rw [e95, e46]
  unfold gluedB wordB
  cases hl : lowB c
  · by_cases h65 : 65 ≤ c.toNat
    · by_cases h90 : c.toNat ≤ 90
      · simp [h65, h90]
      · have hd : isDig c = false := by simp [isDig]; omega
        have h46 : ¬ c.toNat = 46 := by omega
        by_cases h95 : c.toNat = 95 <;> simp [h65, h90, hd, h46, h95] <;> omega
    · have h95 : ¬ c.toNat = 95 := by omega
      cases hd : isDig c <;> by_cases h46 : c.toNat = 46 <;> simp [h65, h95, h46] <;> omega
  · simp

set_option maxRecDepth 100000 in
set_option maxHeartbeats 8000000 in
theorem scanNumber_any (s : ByteArray) (hs : s.size ≤ 1000000) (h0 : 0 < s.size) (hd0 : isDig (s[0]'h0) = true) (w : World) (hM : Mon w) :
    Calls Tryz.prog 45 #[.string s] w fun e w' => e = .returned (srV (lxNum (L s))) ∧ Kept w w' := by
  have hdr := L_drop s 0 h0
  rw [List.drop_zero] at hdr
  have HHd := Lib.hid (show ∃ a r, L s = a :: r ∧ isDig a = true from ⟨_, _, hdr, hd0⟩)
  have hW1 : 1 ≤ lead_of isDig (L s) := by rw [hdr]; exact lead_of_pos hd0
  have hWl := lead_of_le isDig (L s)
  rw [L_length] at hWl
  have R0 := fun w => dat_any s 0 hs (by omega) w
  rw [List.drop_zero] at R0
  have RD := fun w => isDate_any s hs w
  have ed := ext_drop s (lead_of isDig (L s))
  have hxs : ∀ k, (s.extract k s.size).size ≤ 1000000 := fun k => by rw [ByteArray.size_extract]; omega
  have H2 := fun w => hasDec_any (s.extract (lead_of isDig (L s)) s.size) 2 (hxs _) w
  have H4 := fun w => hasDec_any (s.extract (lead_of isDig (L s)) s.size) 4 (hxs _) w
  rw [ed, decB_point] at H2 H4
  have HP := fun w => Tryz.strings_HasPrefix (s.extract (lead_of isDig (L s) + 5) s.size) ⟨#[37]⟩ w
  have ep : Lib.hasPrefix (s.extract (lead_of isDig (L s) + 5) s.size).data.toList [37] = ((L s)[lead_of isDig (L s) + 5]? == some 37) := by
    rw [prefix_one, show (s.extract (lead_of isDig (L s) + 5) s.size).data.toList = L (s.extract (lead_of isDig (L s) + 5) s.size) from rfl, ext_drop, List.head?_drop]
  have e37 : ((⟨#[37]⟩ : ByteArray)).data.toList = [37] := rfl
  rw [e37, ep] at HP
  clear ed ep e37 hdr
  have hkl : lxKL (L s) = if datedB (L s) then (5, 10) else if pointB (L s) 2 then (3, lead_of isDig (L s) + 3) else if pointB (L s) 4 && (L s)[lead_of isDig (L s) + 5]? == some 37 then (4, lead_of isDig (L s) + 6) else (2, lead_of isDig (L s)) := rfl
  have hle := lxKL_le (l := L s)
  rw [hkl] at hle
  rw [L_length] at hle
  have hp4 : pointB (L s) 4 = true → lead_of isDig (L s) + 5 ≤ s.size := by
    intro h
    have h' := pointB_iff.1 h
    have := lead_of_le isDig ((L s).drop (lead_of isDig (L s) + 1))
    rw [List.length_drop, L_length] at this
    omega
  have hz : zeroB (L s) = (!datedB (L s) && (decide (1 < lead_of isDig (L s)) && (L s)[0]? == some 48)) := rfl
  rw [L_get s 0 h0] at hz
  have hz48 : (some (s[0]'h0) == some 48) = (((s[0]'h0).toNat : Int) == 48) := by
    rw [Bool.eq_iff_iff, beq_iff_eq, beq_iff_eq, Option.some.injEq, ← UInt8.toNat_inj]
    have : (48 : UInt8).toNat = 48 := rfl
    omega
  rw [hz48] at hz
  have HZ1 := Lib.hid (fun h => lx_zero (l := L s) h)
  clear hz48 hd0 hxs
  generalize hWW : lead_of isDig (L s) = W at *
  generalize hDD : datedB (L s) = D at *
  generalize hP2 : pointB (L s) 2 = P2 at *
  generalize hP4 : pointB (L s) 4 = P4 at *
  generalize hP5 : ((L s)[W + 5]? == some 37) = P5 at *
  generalize hc48 : (((s[0]'h0).toNat : Int) == 48) = Z at *
  have HKL := Lib.hid hkl
  have HZZ := Lib.hid hz
  have HC48 := Lib.hid hc48
  have HL := Lib.hid hle
  have HP4 := Lib.hid hp4
  have HR0 := Lib.hid R0
  have HRD := Lib.hid RD
  have HH2 := Lib.hid H2
  have HH4 := Lib.hid H4
  have HHP := Lib.hid HP
  clear hkl hz hle hp4 R0 RD H2 H4 HP hWW hDD hP2 hP4 hP5 hc48
  go_enter Tryz.func45, Tryz.ntmps45
  go_upto_if 13 with (go_at_call 59; refine (HRD.out _).mono ?_; rintro e w' ⟨rfl, rfl⟩)
  clear HRD
  go_cut [5, 6] (fun k n wx => ∃ (K : Int) (N : Nat), k = .int .i64 K ∧ n = .int .i64 (N : Int) ∧ KN (L s) K N ∧ wx = w.alloc (.cells #[.int .i64 0, .string ⟨#[]⟩, .int .i64 0, .int .i64 0] 73))
  case first =>
    cases D
    · rcases (show (1 < W ∧ Z = true) ∨ (1 < W ∧ Z = false) ∨ ¬ 1 < W by cases Z <;> simp <;> omega) with ⟨w1, rfl⟩ | ⟨w1, rfl⟩ | w1
      · have HR := Lib.hid (HZ1.out (by rw [HZZ.out]; simp [w1]))
        have hc48 := HC48.out
        cases P2
        · cases P4
          · go_wp2_with (first
          | (go_at_call 60; refine (HR0.out _).mono ?_; rintro e w' ⟨rfl, rfl⟩)
          | (go_at_call_of 61 (Value.int IntKind.i64 2); refine (HH2.out _).mono ?_; rintro e w' ⟨rfl, rfl⟩)
          | (go_at_call_of 61 (Value.int IntKind.i64 4); refine (HH4.out _).mono ?_; rintro e w' ⟨rfl, rfl⟩)
          | (go_at_call 47; refine (HHP.out _).mono ?_; rintro e w' ⟨rfl, rfl⟩))
            refine bodyPost_ret (v := srV (lxNum (L s))) (by rw [HR.out]; simp [srV, SR.err, bs, results, Tryz.results45, go_sem]) rfl ⟨rfl, ?_⟩
            exact (Kept.refl _).alloc _
          · have hw5 := HP4.out rfl
            cases P5
            all_goals
              go_wp2_with (first
          | (go_at_call 60; refine (HR0.out _).mono ?_; rintro e w' ⟨rfl, rfl⟩)
          | (go_at_call_of 61 (Value.int IntKind.i64 2); refine (HH2.out _).mono ?_; rintro e w' ⟨rfl, rfl⟩)
          | (go_at_call_of 61 (Value.int IntKind.i64 4); refine (HH4.out _).mono ?_; rintro e w' ⟨rfl, rfl⟩)
          | (go_at_call 47; refine (HHP.out _).mono ?_; rintro e w' ⟨rfl, rfl⟩))
              refine bodyPost_ret (v := srV (lxNum (L s))) (by rw [HR.out]; simp [srV, SR.err, bs, results, Tryz.results45, go_sem]) rfl ⟨rfl, ?_⟩
              exact (Kept.refl _).alloc _
        · go_wp2_with (first
          | (go_at_call 60; refine (HR0.out _).mono ?_; rintro e w' ⟨rfl, rfl⟩)
          | (go_at_call_of 61 (Value.int IntKind.i64 2); refine (HH2.out _).mono ?_; rintro e w' ⟨rfl, rfl⟩)
          | (go_at_call_of 61 (Value.int IntKind.i64 4); refine (HH4.out _).mono ?_; rintro e w' ⟨rfl, rfl⟩)
          | (go_at_call 47; refine (HHP.out _).mono ?_; rintro e w' ⟨rfl, rfl⟩))
          refine bodyPost_ret (v := srV (lxNum (L s))) (by rw [HR.out]; simp [srV, SR.err, bs, results, Tryz.results45, go_sem]) rfl ⟨rfl, ?_⟩
          exact (Kept.refl _).alloc _
      all_goals
        have HZ := Lib.hid (show zeroB (L s) = false by rw [HZZ.out]; simp [w1])
        have hc48 := HC48.out
        cases P2
        · cases P4
          · go_wp2_with (first
          | (go_at_call 60; refine (HR0.out _).mono ?_; rintro e w' ⟨rfl, rfl⟩)
          | (go_at_call_of 61 (Value.int IntKind.i64 2); refine (HH2.out _).mono ?_; rintro e w' ⟨rfl, rfl⟩)
          | (go_at_call_of 61 (Value.int IntKind.i64 4); refine (HH4.out _).mono ?_; rintro e w' ⟨rfl, rfl⟩)
          | (go_at_call 47; refine (HHP.out _).mono ?_; rintro e w' ⟨rfl, rfl⟩))
            go_meet
            case rel => exact ⟨2, W, rfl, rfl, ⟨HKL.out, HZ.out, HL.out, hW1⟩, rfl⟩
          · have hw5 := HP4.out rfl
            cases P5
            · go_wp2_with (first
          | (go_at_call 60; refine (HR0.out _).mono ?_; rintro e w' ⟨rfl, rfl⟩)
          | (go_at_call_of 61 (Value.int IntKind.i64 2); refine (HH2.out _).mono ?_; rintro e w' ⟨rfl, rfl⟩)
          | (go_at_call_of 61 (Value.int IntKind.i64 4); refine (HH4.out _).mono ?_; rintro e w' ⟨rfl, rfl⟩)
          | (go_at_call 47; refine (HHP.out _).mono ?_; rintro e w' ⟨rfl, rfl⟩))
              go_meet
              case rel => exact ⟨2, W, rfl, rfl, ⟨HKL.out, HZ.out, HL.out, hW1⟩, rfl⟩
            · go_wp2_with (first
          | (go_at_call 60; refine (HR0.out _).mono ?_; rintro e w' ⟨rfl, rfl⟩)
          | (go_at_call_of 61 (Value.int IntKind.i64 2); refine (HH2.out _).mono ?_; rintro e w' ⟨rfl, rfl⟩)
          | (go_at_call_of 61 (Value.int IntKind.i64 4); refine (HH4.out _).mono ?_; rintro e w' ⟨rfl, rfl⟩)
          | (go_at_call 47; refine (HHP.out _).mono ?_; rintro e w' ⟨rfl, rfl⟩))
              go_meet
              case rel => exact ⟨4, W + 6, rfl, by go_num, ⟨HKL.out, HZ.out, HL.out, by omega⟩, rfl⟩
        · go_wp2_with (first
          | (go_at_call 60; refine (HR0.out _).mono ?_; rintro e w' ⟨rfl, rfl⟩)
          | (go_at_call_of 61 (Value.int IntKind.i64 2); refine (HH2.out _).mono ?_; rintro e w' ⟨rfl, rfl⟩)
          | (go_at_call_of 61 (Value.int IntKind.i64 4); refine (HH4.out _).mono ?_; rintro e w' ⟨rfl, rfl⟩)
          | (go_at_call 47; refine (HHP.out _).mono ?_; rintro e w' ⟨rfl, rfl⟩))
          go_meet
          case rel => exact ⟨3, W + 3, rfl, by go_num, ⟨HKL.out, HZ.out, HL.out, by omega⟩, rfl⟩
    · go_wp2_with fail
      go_meet
      case rel => exact ⟨5, 10, rfl, rfl, ⟨HKL.out, by rw [HZZ.out]; rfl, HL.out, by decide⟩, rfl⟩
  case rest =>
    obtain ⟨K, N, rfl, rfl, hkn, rfl⟩ := hcut
    clear HR0 HH2 HH4 HHP HKL HZZ HL HP4 HC48 HZ1 hW1 hWl
    obtain ⟨⟨n, c⟩, hp⟩ : ∃ p, pL K ((L s).take N) = p := ⟨_, rfl⟩
    have hN : N ≤ s.size := hkn.2.2.1
    have hN1 := hkn.2.2.2
    have HKK : K = 5 ∨ K = 3 ∨ K = 4 ∨ K = 2 := by have := lxKL_kind (L s); rw [hkn.1] at this; exact this
    have hxz : (s.extract 0 N).size = N := by rw [ByteArray.size_extract]; omega
    have HNUM := Lib.hid (fun w hM => number_any K (s.extract 0 N) HKK (by omega) (by omega) w hM)
    rw [ext_take, hp] at HNUM
    have HV := Lib.hid (fun h => lx_val hkn h HHd.out hp)
    have HG := Lib.hid (fun c h1 h2 => lx_glued (c := c) hkn h1 h2)
    have HT := Lib.hid (ext_take s N).symm
    have hMM := hM.kept ((Kept.refl w).alloc (.cells #[.int .i64 0, .string ⟨#[]⟩, .int .i64 0, .int .i64 0] 73))
    have hNi : (N : Int) ≤ s.size := by omega
    clear hp hkn HKK hxz
    by_cases hlt : N < s.size
    · have hg := L_get s N hlt
      have hni : (N : Int) < s.size := by omega
      rcases glue_cases (s[N]'hlt) with ⟨hG, h1⟩ | ⟨hG, h1, h2, h3⟩ | ⟨hG, h1, h2, h3⟩ | ⟨hG, h1, h2, h3, h4, h5⟩ | ⟨hG, h1, h2, h3, h4, h5⟩ | ⟨hG, h1, h2, h3, h4, h5⟩ | ⟨hG, h1, h2, h3, h4, h5, h6⟩
      iterate 5
        · have HR := Lib.hid (HG.out _ hg hG)
          clear hG hg
          go_wp2_with (first
            | (go_at_call 42; refine (lower_any _ _).mono ?_; rintro e w' ⟨rfl, rfl⟩)
            | (go_at_call 44; refine (ldigit_any _ _).mono ?_; rintro e w' ⟨rfl, rfl⟩))
          refine bodyPost_ret (v := srV (lxNum (L s))) (by rw [HR.out]; simp [srV, SR.err, bs, results, Tryz.results45, go_sem]) rfl ⟨rfl, ?_⟩
          exact (Kept.refl _).alloc _
      all_goals
        have hv := HV.out (by rw [hg]; exact hG)
        clear hG hg
        rcases hv with ⟨rfl, hv⟩ | ⟨hc, hv⟩
        · rw [HT.out] at hv
          have HR := Lib.hid hv
          clear hv
          go_wp2_with (first
            | (go_at_call 42; refine (lower_any _ _).mono ?_; rintro e w' ⟨rfl, rfl⟩)
            | (go_at_call 44; refine (ldigit_any _ _).mono ?_; rintro e w' ⟨rfl, rfl⟩)
            | (go_at_call 62; refine (HNUM.out _ hMM).mono ?_; rintro e w' ⟨rfl, k1⟩; have B := k1.blk1; have b := B.cell; have l := B.lt; have f := B.frozen))
          refine bodyPost_ret (v := srV (lxNum (L s))) (by rw [HR.out]; simp [srV, results, Tryz.results45, go_sem, b]) rfl ⟨rfl, ?_⟩
          repeat refine Kept.setCell ?_ (by simp only; omega) _
          exact ((Kept.refl _).alloc _).trans k1
        · have hcb : (c != 0) = true := by simpa using hc
          have HR := Lib.hid hv
          clear hv hc
          go_wp2_with (first
            | (go_at_call 42; refine (lower_any _ _).mono ?_; rintro e w' ⟨rfl, rfl⟩)
            | (go_at_call 44; refine (ldigit_any _ _).mono ?_; rintro e w' ⟨rfl, rfl⟩)
            | (go_at_call 62; refine (HNUM.out _ hMM).mono ?_; rintro e w' ⟨rfl, k1⟩; have B := k1.blk1; have b := B.cell; have l := B.lt; have f := B.frozen))
          refine bodyPost_ret (v := srV (lxNum (L s))) (by rw [HR.out]; simp [srV, SR.err, bs, results, Tryz.results45, go_sem, b]) rfl ⟨rfl, ?_⟩
          repeat refine Kept.setCell ?_ (by simp only; omega) _
          exact ((Kept.refl _).alloc _).trans k1
    · have hv := HV.out (by rw [List.getElem?_eq_none (by rw [L_length]; omega)]; rfl)
      rcases hv with ⟨rfl, hv⟩ | ⟨hc, hv⟩
      · rw [HT.out] at hv
        have HR := Lib.hid hv
        clear hv
        go_wp2_with (go_at_call 62; refine (HNUM.out _ hMM).mono ?_; rintro e w' ⟨rfl, k1⟩; have B := k1.blk1; have b := B.cell; have l := B.lt; have f := B.frozen)
        refine bodyPost_ret (v := srV (lxNum (L s))) (by rw [HR.out]; simp [srV, results, Tryz.results45, go_sem, b]) rfl ⟨rfl, ?_⟩
        repeat refine Kept.setCell ?_ (by simp only; omega) _
        exact ((Kept.refl _).alloc _).trans k1
      · have hcb : (c != 0) = true := by simpa using hc
        have HR := Lib.hid hv
        clear hv hc
        go_wp2_with (go_at_call 62; refine (HNUM.out _ hMM).mono ?_; rintro e w' ⟨rfl, k1⟩; have B := k1.blk1; have b := B.cell; have l := B.lt; have f := B.frozen)
        refine bodyPost_ret (v := srV (lxNum (L s))) (by rw [HR.out]; simp [srV, SR.err, bs, results, Tryz.results45, go_sem, b]) rfl ⟨rfl, ?_⟩
        repeat refine Kept.setCell ?_ (by simp only; omega) _
        exact ((Kept.refl _).alloc _).trans k1
end Go.Proofs.YtdnjfpmngnkcfaaGreatDoor
/- What scan and skip of package lexer compute. -/
namespace Go.Proofs.YtdnjfpmngnkcfaaGreatDoor
open Go.RowKit

def symB (c : UInt8) : Bool := decide (0 ≤ Lib.indexByte [40, 41, 44, 58, 43, 45, 42] c)
theorem symB_iff (c : UInt8) : symB c = true ↔ c.toNat = 40 ∨ c.toNat = 41 ∨ c.toNat = 44 ∨ c.toNat = 58 ∨ c.toNat = 43 ∨ c.toNat = 45 ∨ c.toNat = 42 := by
  unfold symB
  rw [← Lib.contains_iff_indexByte]
  simp only [List.contains_cons, List.contains_nil, Bool.or_false, Bool.or_eq_true, beq_iff_eq, ← UInt8.toNat_inj]
  rfl
theorem scan_cases (c : UInt8) :
    (((c.toNat : Int) == 10) = true ∧ c.toNat = 10) ∨ (((c.toNat : Int) == 10) = false ∧ c.toNat ≠ 10 ∧ lowB c = true) ∨ (((c.toNat : Int) == 10) = false ∧ c.toNat ≠ 10 ∧ lowB c = false ∧ isDig c = true) ∨
    (((c.toNat : Int) == 10) = false ∧ c.toNat ≠ 10 ∧ lowB c = false ∧ isDig c = false ∧ ((c.toNat : Int) == 34) = true ∧ c.toNat = 34) ∨
    (((c.toNat : Int) == 10) = false ∧ c.toNat ≠ 10 ∧ lowB c = false ∧ isDig c = false ∧ ((c.toNat : Int) == 34) = false ∧ c.toNat ≠ 34 ∧ ((c.toNat : Int) == 60) = true ∧ ((c.toNat : Int) == 33) = false ∧ sym2 c = true ∧ sym1 c = true) ∨
    (((c.toNat : Int) == 10) = false ∧ c.toNat ≠ 10 ∧ lowB c = false ∧ isDig c = false ∧ ((c.toNat : Int) == 34) = false ∧ c.toNat ≠ 34 ∧ ((c.toNat : Int) == 60) = false ∧ ((c.toNat : Int) == 61) = true ∧ ((c.toNat : Int) == 33) = false ∧ sym2 c = true ∧ sym1 c = true) ∨
    (((c.toNat : Int) == 10) = false ∧ c.toNat ≠ 10 ∧ lowB c = false ∧ isDig c = false ∧ ((c.toNat : Int) == 34) = false ∧ c.toNat ≠ 34 ∧ ((c.toNat : Int) == 60) = false ∧ ((c.toNat : Int) == 61) = false ∧ ((c.toNat : Int) == 33) = true ∧ sym2 c = true ∧ sym1 c = false) ∨
    (((c.toNat : Int) == 10) = false ∧ c.toNat ≠ 10 ∧ lowB c = false ∧ isDig c = false ∧ ((c.toNat : Int) == 34) = false ∧ c.toNat ≠ 34 ∧ ((c.toNat : Int) == 60) = false ∧ ((c.toNat : Int) == 61) = false ∧ ((c.toNat : Int) == 33) = false ∧ sym2 c = false ∧ symB c = sym1 c) := by
  have e : ∀ z : Nat, ((c.toNat : Int) == (z : Int)) = decide (c.toNat = z) := by
    intro z; rw [Bool.eq_iff_iff, beq_iff_eq, decide_eq_true_eq]; omega
  have e10 := e 10
  have e34 := e 34
  have e60 := e 60
  have e61 := e 61
  have e33 := e 33
  rw [show ((10 : Nat) : Int) = 10 from rfl] at e10
  rw [show ((34 : Nat) : Int) = 34 from rfl] at e34
  rw [show ((60 : Nat) : Int) = 60 from rfl] at e60
  rw [show ((61 : Nat) : Int) = 61 from rfl] at e61
  rw [show ((33 : Nat) : Int) = 33 from rfl] at e33
  rw [e10, e34, e60, e61, e33]
  by_cases h10 : c.toNat = 10
  · exact .inl ⟨by simp [h10], h10⟩
  · right
    by_cases hl : lowB c = true
    · exact .inl ⟨by simp [h10], h10, hl⟩
    · right
      have hl' : lowB c = false := by simpa using hl
      by_cases hd : isDig c = true
      · exact .inl ⟨by simp [h10], h10, hl', hd⟩
      · right
        have hd' : isDig c = false := by simpa using hd
        by_cases h34 : c.toNat = 34
        · exact .inl ⟨by simp [h10], h10, hl', hd', by simp [h34], h34⟩
        · right
          by_cases h60 : c.toNat = 60
          · exact .inl ⟨by simp [h10], h10, hl', hd', by simp [h34], h34, by simp [h60], by simp [h60], by simp [sym2, h60], by simp [sym1, h60]⟩
          · right
            by_cases h61 : c.toNat = 61
            · exact .inl ⟨by simp [h10], h10, hl', hd', by simp [h34], h34, by simp [h60], by simp [h61], by simp [h61], by simp [sym2, h61], by simp [sym1, h61]⟩
            · right
              by_cases h33 : c.toNat = 33
              · exact .inl ⟨by simp [h10], h10, hl', hd', by simp [h34], h34, by simp [h60], by simp [h61], by simp [h33], by simp [sym2, h33], by simp [sym1, h33]⟩
              · refine .inr ⟨by simp [h10], h10, hl', hd', by simp [h34], h34, by simp [h60], by simp [h61], by simp [h33], by simp [sym2, h60, h61, h33], ?_⟩
                rw [Bool.eq_iff_iff, symB_iff]
                simp [sym1, h60, h61]
theorem srV_of {R : SR} : srV R = .tuple #[.agg #[.int .i64 R.k, .string (bs R.t), .int .i64 R.n, .int .i64 0], .int .i64 R.len, .int .i64 R.code] := rfl

set_option maxRecDepth 100000 in
set_option maxHeartbeats 8000000 in
theorem scan_any (s : ByteArray) (hs : s.size ≤ 1000000) (h0 : 0 < s.size) (w : World) (hM : Mon w) :
    Calls Tryz.prog 33 #[.string s] w fun e w' => e = .returned (srV (lxScan (L s))) ∧ Kept w w' := by
  have hdr := L_drop s 0 h0
  rw [List.drop_zero] at hdr
  have hdd : (L s).drop 1 = (L s).drop (0 + 1) := rfl
  have h1i : (1 : Int) ≤ s.size := by omega
  have hMM := hM.kept ((Kept.refl w).alloc (.cells #[.int .i64 0, .string ⟨#[]⟩, .int .i64 0, .int .i64 0] 73))
  rcases scan_cases (s[0]'h0) with ⟨c1, c2⟩ | ⟨c1, c2, c3⟩ | ⟨c1, c2, c3, c4⟩ | ⟨c1, c2, c3, c4, c5, c6⟩ | ⟨c1, c2, c3, c4, c5, c6, c7, c8, c9, c10⟩ | ⟨c1, c2, c3, c4, c5, c6, c7, c8, c9, c10, c11⟩ | ⟨c1, c2, c3, c4, c5, c6, c7, c8, c9, c10, c11⟩ | ⟨c1, c2, c3, c4, c5, c6, c7, c8, c9, c10, c11⟩
  · have HR := Lib.hid (show lxScan (L s) = ⟨0, 8, L (s.extract 0 1), 0, 1⟩ by
      rw [ext_take, hdr, lxScan, if_pos c2]
      have : s[0] = 10 := UInt8.toNat_inj.1 c2
      rw [this]; rfl)
    clear hdr hdd c2
    go_enter Tryz.func33, Tryz.ntmps33
    go_wp2_with fail
    refine bodyPost_ret (v := srV (lxScan (L s))) (by rw [HR.out]; simp [srV, results, Tryz.results33, go_sem]) rfl ⟨rfl, ?_⟩
    exact (Kept.refl _).alloc _
  · have HR := Lib.hid (show lxScan (L s) = lxName (L s) by rw [hdr, lxScan, if_neg c2, if_pos c3])
    clear hdr hdd c2
    have H := Lib.hid (fun w => scanName_any s hs w)
    rw [srV_of] at H
    generalize lxName (L s) = R at *
    go_enter Tryz.func33, Tryz.ntmps33
    go_wp2_with (first
      | (go_at_call 42; refine (lower_any _ _).mono ?_; rintro e w' ⟨rfl, rfl⟩)
      | (go_at_call 43; refine (H.out _).mono ?_; rintro e w' ⟨rfl, k1⟩; have B := k1.blk1; have b := B.cell; have l := B.lt; have f := B.frozen))
    refine bodyPost_ret (v := srV (lxScan (L s))) (by rw [HR.out]; simp [srV, results, Tryz.results33, go_sem, b]) rfl ⟨rfl, ?_⟩
    repeat refine Kept.setCell ?_ (by simp only; omega) _
    exact ((Kept.refl _).alloc _).trans k1
  · have HR := Lib.hid (show lxScan (L s) = lxNum (L s) by rw [hdr, lxScan, if_neg c2, if_neg (by rw [c3]; decide), if_pos c4])
    clear hdr hdd c2
    have H := Lib.hid (fun w hM => scanNumber_any s hs h0 c4 w hM)
    rw [srV_of] at H
    generalize lxNum (L s) = R at *
    go_enter Tryz.func33, Tryz.ntmps33
    go_wp2_with (first
      | (go_at_call 42; refine (lower_any _ _).mono ?_; rintro e w' ⟨rfl, rfl⟩)
      | (go_at_call 44; refine (ldigit_any _ _).mono ?_; rintro e w' ⟨rfl, rfl⟩)
      | (go_at_call 45; refine (H.out _ hMM).mono ?_; rintro e w' ⟨rfl, k1⟩; have B := k1.blk1; have b := B.cell; have l := B.lt; have f := B.frozen))
    refine bodyPost_ret (v := srV (lxScan (L s))) (by rw [HR.out]; simp [srV, results, Tryz.results33, go_sem, b]) rfl ⟨rfl, ?_⟩
    repeat refine Kept.setCell ?_ (by simp only; omega) _
    exact ((Kept.refl _).alloc _).trans k1
  · have HR := Lib.hid (show lxScan (L s) = lxStr (L s) by rw [hdr, lxScan, if_neg c2, if_neg (by rw [c3]; decide), if_neg (by rw [c4]; decide), if_pos c6])
    clear hdr hdd c2 c6
    have H := Lib.hid (fun w => scanString_any s hs h0 w)
    rw [srV_of] at H
    generalize lxStr (L s) = R at *
    go_enter Tryz.func33, Tryz.ntmps33
    go_wp2_with (first
      | (go_at_call 42; refine (lower_any _ _).mono ?_; rintro e w' ⟨rfl, rfl⟩)
      | (go_at_call 44; refine (ldigit_any _ _).mono ?_; rintro e w' ⟨rfl, rfl⟩)
      | (go_at_call 46; refine (H.out _).mono ?_; rintro e w' ⟨rfl, k1⟩; have B := k1.blk1; have b := B.cell; have l := B.lt; have f := B.frozen))
    refine bodyPost_ret (v := srV (lxScan (L s))) (by rw [HR.out]; simp [srV, results, Tryz.results33, go_sem, b]) rfl ⟨rfl, ?_⟩
    repeat refine Kept.setCell ?_ (by simp only; omega) _
    exact ((Kept.refl _).alloc _).trans k1
  all_goals
    have hsym : lxScan (L s) = lxSym (L s) := by rw [hdr, lxScan, if_neg c2, if_neg (by rw [c3]; decide), if_neg (by rw [c4]; decide), if_neg c6]
    have hsy : lxSym (L s) = if ((L s).drop 1).head? = some 61 ∧ sym2 (s[0]'h0) = true then ⟨0, 7, [s[0]'h0, 61], 0, 2⟩ else if sym1 (s[0]'h0) then ⟨0, 7, [s[0]'h0], 0, 1⟩ else .err 2 := by
      conv => lhs; rw [hdr]
      rfl
    rw [hsy] at hsym
    have t1 : L (s.extract 0 1) = [s[0]'h0] := by rw [ext_take, hdr]; rfl
    have HP := fun w => Tryz.strings_HasPrefix (s.extract 1 s.size) ⟨#[61]⟩ w
    have ep : Lib.hasPrefix (s.extract 1 s.size).data.toList [61] = (((L s).drop 1).head? == some 61) := by
      rw [prefix_one, show (s.extract 1 s.size).data.toList = L (s.extract 1 s.size) from rfl, ext_drop]
    have e61 : ((⟨#[61]⟩ : ByteArray)).data.toList = [61] := rfl
    rw [e61, ep] at HP
    clear ep e61 hsy
  iterate 3
    · cases hh : (((L s).drop 1).head? == some 61)
      · have hh' : ¬ ((L s).drop 1).head? = some 61 := by simpa using hh
        rw [hh] at HP
        have HHP := Lib.hid HP
        first
          | (have HR := Lib.hid (show lxScan (L s) = ⟨0, 7, L (s.extract 0 1), 0, 1⟩ by
              rw [hsym, if_neg (fun h => hh' h.1), t1]
              first | rw [if_pos c10] | rw [if_pos c11])
             clear hh hh' hsym HP t1 hdr hdd c2 c6
             go_enter Tryz.func33, Tryz.ntmps33
             go_wp2_with (first
               | (go_at_call 42; refine (lower_any _ _).mono ?_; rintro e w' ⟨rfl, rfl⟩)
               | (go_at_call 44; refine (ldigit_any _ _).mono ?_; rintro e w' ⟨rfl, rfl⟩)
               | (go_at_call 47; refine (HHP.out _).mono ?_; rintro e w' ⟨rfl, rfl⟩))
             refine bodyPost_ret (v := srV (lxScan (L s))) (by rw [HR.out]; simp [srV, results, Tryz.results33, go_sem]) rfl ⟨rfl, ?_⟩
             exact (Kept.refl _).alloc _)
          | (have HR := Lib.hid (show lxScan (L s) = .err 2 by
              rw [hsym, if_neg (fun h => hh' h.1), if_neg (by rw [c11]; decide)])
             clear hh hh' hsym HP t1 hdr hdd c2 c6
             go_enter Tryz.func33, Tryz.ntmps33
             go_wp2_with (first
               | (go_at_call 42; refine (lower_any _ _).mono ?_; rintro e w' ⟨rfl, rfl⟩)
               | (go_at_call 44; refine (ldigit_any _ _).mono ?_; rintro e w' ⟨rfl, rfl⟩)
               | (go_at_call 47; refine (HHP.out _).mono ?_; rintro e w' ⟨rfl, rfl⟩))
             refine bodyPost_ret (v := srV (lxScan (L s))) (by rw [HR.out]; simp [srV, SR.err, bs, results, Tryz.results33, go_sem]) rfl ⟨rfl, ?_⟩
             exact (Kept.refl _).alloc _)
      · have hh' : ((L s).drop 1).head? = some 61 := by simpa using hh
        have hl2 : 2 ≤ s.size := by
          rw [List.head?_drop] at hh'
          have := get_lt hh'
          rw [L_length] at this; omega
        have hl2i : (2 : Int) ≤ s.size := by omega
        have t2 : L (s.extract 0 2) = [s[0]'h0, 61] := by
          rw [ext_take, List.take_add_one, ← List.head?_drop, hh']
          conv => lhs; rw [hdr]
          rfl
        rw [hh] at HP
        have HHP := Lib.hid HP
        have HR := Lib.hid (show lxScan (L s) = ⟨0, 7, L (s.extract 0 2), 0, 2⟩ by
          rw [hsym, if_pos ⟨hh', by first | exact c9 | exact c10⟩, t2])
        clear hh hh' hsym HP t1 t2 hdr hdd c2 c6
        go_enter Tryz.func33, Tryz.ntmps33
        go_wp2_with (first
          | (go_at_call 42; refine (lower_any _ _).mono ?_; rintro e w' ⟨rfl, rfl⟩)
          | (go_at_call 44; refine (ldigit_any _ _).mono ?_; rintro e w' ⟨rfl, rfl⟩)
          | (go_at_call 47; refine (HHP.out _).mono ?_; rintro e w' ⟨rfl, rfl⟩))
        refine bodyPost_ret (v := srV (lxScan (L s))) (by rw [HR.out]; simp [srV, results, Tryz.results33, go_sem]) rfl ⟨rfl, ?_⟩
        exact (Kept.refl _).alloc _
  · have HB := fun w => Tryz.strings_IndexByte ⟨#[40, 41, 44, 58, 43, 45, 42]⟩ ((s[0]'h0).toNat : Int) w
    have eb : (((s[0]'h0).toNat : Int)).toNat.toUInt8 = s[0]'h0 := by simp
    have eL : (⟨#[40, 41, 44, 58, 43, 45, 42]⟩ : ByteArray).data.toList = [40, 41, 44, 58, 43, 45, 42] := rfl
    rw [eb, eL] at HB
    have hsb : symB (s[0]'h0) = decide (0 ≤ Lib.indexByte [40, 41, 44, 58, 43, 45, 42] (s[0]'h0)) := rfl
    rw [c11] at hsb
    generalize Lib.indexByte [40, 41, 44, 58, 43, 45, 42] (s[0]'h0) = z at *
    have HHB := Lib.hid HB
    rw [if_neg (fun h => by rw [c10] at h; exact absurd h.2 (by decide))] at hsym
    cases h1 : sym1 (s[0]'h0)
    · have HR := Lib.hid (show lxScan (L s) = .err 2 by rw [hsym, if_neg (by rw [h1]; decide)])
      rw [h1] at hsb
      have hz : decide (0 ≤ z) = false := hsb.symm
      clear hsb h1 hsym HP HB t1 eb eL hdr hdd c2 c6 c10 c11
      go_enter Tryz.func33, Tryz.ntmps33
      go_wp2_with (first
        | (go_at_call 42; refine (lower_any _ _).mono ?_; rintro e w' ⟨rfl, rfl⟩)
        | (go_at_call 44; refine (ldigit_any _ _).mono ?_; rintro e w' ⟨rfl, rfl⟩)
        | (go_at_call 48; refine (HHB.out _).mono ?_; rintro e w' ⟨rfl, rfl⟩))
      refine bodyPost_ret (v := srV (lxScan (L s))) (by rw [HR.out]; simp [srV, SR.err, bs, results, Tryz.results33, go_sem]) rfl ⟨rfl, ?_⟩
      exact (Kept.refl _).alloc _
    · have HR := Lib.hid (show lxScan (L s) = ⟨0, 7, L (s.extract 0 1), 0, 1⟩ by rw [hsym, if_pos h1, t1])
      rw [h1] at hsb
      have hz : 0 ≤ z := by simpa using hsb.symm
      clear hsb h1 hsym HP HB t1 eb eL hdr hdd c2 c6 c10 c11
      go_enter Tryz.func33, Tryz.ntmps33
      go_wp2_with (first
        | (go_at_call 42; refine (lower_any _ _).mono ?_; rintro e w' ⟨rfl, rfl⟩)
        | (go_at_call 44; refine (ldigit_any _ _).mono ?_; rintro e w' ⟨rfl, rfl⟩)
        | (go_at_call 48; refine (HHB.out _).mono ?_; rintro e w' ⟨rfl, rfl⟩))
      refine bodyPost_ret (v := srV (lxScan (L s))) (by rw [HR.out]; simp [srV, results, Tryz.results33, go_sem]) rfl ⟨rfl, ?_⟩
      exact (Kept.refl _).alloc _

theorem skip_step {b : Bool} {s : ByteArray} {i n k : Nat} (hi : i < s.size) {b' : Bool} (hb : skipL b (s[i]'hi :: (L s).drop (i + 1)) = skipL b' ((L s).drop (i + 1)) + 1) (h : n = k + skipL b ((L s).drop i)) : n = k + 1 + skipL b' ((L s).drop (i + 1)) := by
  rw [h, L_drop s i hi, hb]; omega
theorem skip_stop {b : Bool} {s : ByteArray} {i n k : Nat} (hi : i < s.size) (hb : skipL b (s[i]'hi :: (L s).drop (i + 1)) = 0) (h : n = k + skipL b ((L s).drop i)) : n = k := by
  rw [h, L_drop s i hi, hb]; rfl
theorem skip_out {b : Bool} {s : ByteArray} {i n k : Nat} (hi : ¬ i < s.size) (h : n = k + skipL b ((L s).drop i)) : n = k := by
  rw [h, List.drop_of_length_le (by rw [L_length]; omega)]
  cases b <;> rfl

set_option maxRecDepth 100000 in
set_option maxHeartbeats 4000000 in
theorem skip_any (s : ByteArray) (a : Nat) (hs : s.size ≤ 1000000) (ha : a ≤ 1000000) (w : World) :
    Calls Tryz.prog 32 #[.string s, .int .i64 a] w fun e w' => e = .returned (.int .i64 ((a + skipL false ((L s).drop a) : Nat) : Int)) ∧ w = w' := by
  go_enter Tryz.func32, Tryz.ntmps32
  go_wp2_with fail
  go_loop [1, 5] (fun x y => ∃ (k : Nat) (b : Bool), x = .int .i64 ((a + k : Nat) : Int) ∧ y = .bool b ∧ (k = 0 ∨ a + k ≤ s.size) ∧ skipL false ((L s).drop a) = k + skipL b ((L s).drop (a + k))) (fun x _ => s.size - (intOf x).toNat)
  case atStart => exact ⟨0, false, rfl, rfl, .inl rfl, by simp⟩
  case round =>
    obtain ⟨k, b, rfl, rfl, hk, hr⟩ := hrel
    have hkb : k ≤ 1000000 := by omega
    generalize hi : a + k = i at *
    by_cases hlt : i < s.size
    · have e : ∀ z : Nat, (((s[i]'hlt).toNat : Int) == (z : Int)) = decide ((s[i]'hlt).toNat = z) := by
        intro z; rw [Bool.eq_iff_iff, beq_iff_eq, decide_eq_true_eq]; omega
      have e10 := e 10
      have e35 := e 35
      have e32 := e 32
      have e9 := e 9
      rw [show ((10 : Nat) : Int) = 10 from rfl] at e10
      rw [show ((35 : Nat) : Int) = 35 from rfl] at e35
      rw [show ((32 : Nat) : Int) = 32 from rfl] at e32
      rw [show ((9 : Nat) : Int) = 9 from rfl] at e9
      clear e
      cases b
      · by_cases h35 : (s[i]'hlt).toNat = 35
        · have HR := Lib.hid (skip_step (b' := true) hlt (by rw [skipL, if_pos h35]) hr)
          have t35 : (((s[i]'hlt).toNat : Int) == 35) = true := by rw [e35, h35]; rfl
          clear hr e10 e35 e32 e9 h35
          go_wp2_with fail
          go_round
          case rel => exact ⟨k + 1, true, by congr 1; omega, rfl, by omega, by rw [show a + (k + 1) = i + 1 by omega]; exact HR.out⟩
          case measure => simp [intOf]; omega
        · have t35 : (((s[i]'hlt).toNat : Int) == 35) = false := by rw [e35]; simp [h35]
          by_cases h32 : (s[i]'hlt).toNat = 32
          · have HR := Lib.hid (skip_step (b' := false) hlt (by rw [skipL, if_neg h35, if_pos (.inl h32)]) hr)
            have t32 : (((s[i]'hlt).toNat : Int) == 32) = true := by rw [e32, h32]; rfl
            have t32' : (((s[i]'hlt).toNat : Int) != 32) = false := by rw [bne, t32]; rfl
            clear hr e10 e35 e32 e9 h35 h32
            go_wp2_with fail
            go_round
            case rel => exact ⟨k + 1, false, by congr 1; omega, rfl, by omega, by rw [show a + (k + 1) = i + 1 by omega]; exact HR.out⟩
            case measure => simp [intOf]; omega
          · have t32 : (((s[i]'hlt).toNat : Int) == 32) = false := by rw [e32]; simp [h32]
            have t32' : (((s[i]'hlt).toNat : Int) != 32) = true := by rw [bne, t32]; rfl
            by_cases h9 : (s[i]'hlt).toNat = 9
            · have HR := Lib.hid (skip_step (b' := false) hlt (by rw [skipL, if_neg h35, if_pos (.inr h9)]) hr)
              have t9 : (((s[i]'hlt).toNat : Int) == 9) = true := by rw [e9, h9]; rfl
              have t9' : (((s[i]'hlt).toNat : Int) != 9) = false := by rw [bne, t9]; rfl
              clear hr e10 e35 e32 e9 h35 h32 h9
              go_wp2_with fail
              go_round
              case rel => exact ⟨k + 1, false, by congr 1; omega, rfl, by omega, by rw [show a + (k + 1) = i + 1 by omega]; exact HR.out⟩
              case measure => simp [intOf]; omega
            · have HR := Lib.hid (skip_stop hlt (by rw [skipL, if_neg h35, if_neg (by omega)]) hr)
              have t9 : (((s[i]'hlt).toNat : Int) == 9) = false := by rw [e9]; simp [h9]
              have t9' : (((s[i]'hlt).toNat : Int) != 9) = true := by rw [bne, t9]; rfl
              clear hr e10 e35 e32 e9 h35 h32 h9
              go_wp2_with fail
              go_ret
              exact ⟨ret_int (by rw [HR.out]; omega), rfl⟩
      · by_cases h10 : (s[i]'hlt).toNat = 10
        · have HR := Lib.hid (skip_stop hlt (by rw [skipL, if_pos h10]) hr)
          have t10 : (((s[i]'hlt).toNat : Int) == 10) = true := by rw [e10, h10]; rfl
          clear hr e10 e35 e32 e9 h10
          go_wp2_with fail
          go_ret
          exact ⟨ret_int (by rw [HR.out]; omega), rfl⟩
        · have HR := Lib.hid (skip_step (b' := true) hlt (by rw [skipL, if_neg h10]) hr)
          have t10 : (((s[i]'hlt).toNat : Int) == 10) = false := by rw [e10]; simp [h10]
          clear hr e10 e35 e32 e9 h10
          go_wp2_with fail
          go_round
          case rel => exact ⟨k + 1, true, by congr 1; omega, rfl, by omega, by rw [show a + (k + 1) = i + 1 by omega]; exact HR.out⟩
          case measure => simp [intOf]; omega
    · have HR := Lib.hid (skip_out hlt hr)
      clear hr
      go_wp2_with fail
      go_ret
      exact ⟨ret_int (by rw [HR.out]; omega), rfl⟩
end Go.Proofs.YtdnjfpmngnkcfaaGreatDoor
/- What Tokenize of package lexer computes. -/
namespace Go.Proofs.YtdnjfpmngnkcfaaGreatDoor
open Go.RowKit

def tokF (t : Tok) : List Value := [.int .i64 t.k, .string (bs t.t), .int .i64 t.n, .int .i64 t.o]
theorem tokF_len (t : Tok) : (tokF t).length = 4 := rfl
theorem tokF_one (t : Tok) : ∀ u ∈ tokF t, u.oneCell' = true := by
  intro u hu
  simp only [tokF, List.mem_cons, List.not_mem_nil, or_false] at hu
  rcases hu with rfl | rfl | rfl | rfl <;> rfl
/-- the slice value v reads as the tokens xs -/
def Toks (w : World) (v : Value) (xs : List Tok) : Prop := Recs w tokF 4 v xs
theorem Tryz.infoTok : (Tryz.prog.info? 73).map (fun i => (i.zero, i.size, i.bytes)) = some (some (.agg #[.int .i64 0, .string ⟨#[]⟩, .int .i64 0, .int .i64 0]), 4, 40) := by kernel_rfl
theorem tok_new {w : World} (t : Tok) : ∀ j u, (tokF t)[j]? = some u → (w.alloc (.cells #[.int .i64 t.k, .string (bs t.t), .int .i64 t.n, .int .i64 t.o] 73)).cell? ((⟨w.heap.size, 0, none⟩ : Addr).add j) = some u :=
  blk_cells (l := tokF t)
def tokPost (l : List UInt8) (w : World) (e : Ending) (w' : World) : Prop := ∃ v, e = .returned (.tuple #[v, .int .i64 (tokR l).2.1, .int .i64 (tokR l).2.2]) ∧ Toks w' v (tokR l).1 ∧ Kept w w'

set_option maxRecDepth 100000 in
set_option maxHeartbeats 8000000 in
theorem tokenize_any (s : ByteArray) (hs0 : s.size ≤ 9223372036854775807) (w : World) (hM : Mon w) :
    Calls Tryz.prog 18 #[.string s] w (tokPost (L s) w) := by
  by_cases hbig : 65536 < s.size
  · have HR := Lib.hid (show tokR (L s) = ([], 0, 4) by rw [tokR, if_pos (by rw [L_length]; exact hbig)])
    go_enter Tryz.func18, Tryz.ntmps18
    go_wp2_with fail
    go_ret3
    unfold tokPost
    rw [HR.out]
    exact ⟨_, rfl, Recs.nil _ _ _, Kept.refl _⟩
  · have hs : s.size ≤ 1000000 := by omega
    clear hs0
    obtain ⟨i0, hi, hz0, hz1, hz2⟩ := info_parts Tryz.infoTok
    have hsk0 := skip_any s 0 hs (by omega)
    rw [List.drop_zero] at hsk0
    have htk : tokR (L s) = lexF (s.size + 1) (L s) 0 := by rw [tokR, if_neg (by rw [L_length]; exact hbig)]; rfl
    have HSK := Lib.hid hsk0
    clear hsk0
    go_enter Tryz.func18, Tryz.ntmps18
    go_wp2_with (go_at_call 32; refine (HSK.out _).mono ?_; rintro e w' ⟨rfl, rfl⟩)
    go_loopw [5, 6] (fun x y wr => ∃ (p f : Nat) (acc : List Tok), y = .int .i64 ((p + skipL false ((L s).drop p) : Nat) : Int) ∧ p ≤ s.size ∧ acc.length ≤ p ∧ Kept w wr ∧ GathR wr w.heap.size 73 tokF 4 x acc ∧ s.size - p < f ∧ comb acc (lexF f ((L s).drop p) p) = tokR (L s)) (fun _ y _ => s.size - (intOf y).toNat)
    case atStart => exact ⟨0, s.size + 1, [], by simp, Nat.zero_le _, Nat.le_refl _, Kept.refl _, GathR.nil _ _ _, by omega, by rw [htk, List.drop_zero]; exact comb_nil _ (lexF_ok _ _ _)⟩
    case round =>
      obtain ⟨p, f, acc, rfl, hp, hacc, hK, hown, hf, hrun⟩ := hrel
      obtain ⟨f, rfl⟩ : ∃ g, f = g + 1 := ⟨f - 1, by omega⟩
      have hjl := skipL_le false ((L s).drop p)
      rw [List.length_drop, L_length] at hjl
      generalize hj : skipL false ((L s).drop p) = j at *
      have hdd : ((L s).drop p).drop j = (L s).drop (p + j) := List.drop_drop
      by_cases hlt : p + j < s.size
      · have hne : ((L s).drop p).drop j ≠ [] := by
          rw [hdd, Ne, List.drop_eq_nil_iff, L_length]; omega
        have hbad := lexF_bad f ((L s).drop p) p j acc hj hne
        have hnext := lexF_next f ((L s).drop p) p j acc (lxScan ((L s).drop (p + j))) hj hne (by rw [hdd])
        have hlen := lxScan_len (l := (L s).drop (p + j))
        rw [hdd] at hbad hnext
        rw [hrun] at hbad hnext
        have hex : (s.extract (p + j) s.size).size = s.size - (p + j) := by rw [ByteArray.size_extract]; omega
        have hsc := fun w hM => scan_any (s.extract (p + j) s.size) (by omega) (by omega) w hM
        rw [ext_drop, srV_of] at hsc
        rw [List.length_drop, L_length] at hlen
        have hds : ∀ n, ((L s).drop (p + j)).drop n = (L s).drop (p + j + n) := fun n => List.drop_drop
        rw [hds] at hnext
        clear hds hex hne hdd hrun hj
        have hi64 : p + j ≤ 65536 := by omega
        generalize hR : lxScan ((L s).drop (p + j)) = R at *
        clear hR
        obtain ⟨code, k, t, n, len⟩ := R
        dsimp only at hbad hnext hlen hsc
        generalize hii : p + j = i at *
        have HSC := Lib.hid hsc
        have HII := Lib.hid hii
        clear hsc hii
        have hli : (i : Int) ≤ s.size := by omega
        have hli2 : (i : Int) < s.size := by omega
        by_cases hc : code = 0
        · subst hc
          have hlen := hlen rfl
          have HN := Lib.hid (hnext rfl)
          have HSK2 := Lib.hid (fun w => skip_any s (i + len) hs (by omega) w)
          have HOWN := Lib.hid hown
          have HK := Lib.hid hK
          clear hbad hnext hown
          obtain ⟨len1, len2⟩ := hlen
          have hil : i + len ≤ s.size := by omega
          have hal : acc.length + 1 ≤ i + len := by have := HII.out; omega
          have hil2 : s.size - (i + len) < f := by have := HII.out; omega
          go_wp2_with fail
          refine (HSC.out _ (hM.kept hK)).mono ?_
          rintro e w1 ⟨rfl, k1⟩
          have HNEW := Lib.hid (show ∀ j u, (tokF ⟨k, t, n, (i : Nat)⟩)[j]? = some u → ((w1.alloc (.cells #[.int .i64 k, .string (bs t), .int .i64 n, .int .i64 i] 73)).alloc (.cells #[.int .i64 k, .string (bs t), .int .i64 n, .int .i64 i] 73)).cell? ((⟨w1.heap.size + 1, 0, none⟩ : Addr).add j) = some u by
            have h := tok_new (w := w1.alloc (.cells #[.int .i64 k, .string (bs t), .int .i64 n, .int .i64 i] 73)) ⟨k, t, n, (i : Nat)⟩
            rwa [World.size_alloc] at h)
          have HO1 := Lib.hid ((HOWN.out.keptOwn k1).alloc (.cells #[.int .i64 k, .string (bs t), .int .i64 n, .int .i64 i] 73))
          have hw1 : w.heap.size ≤ w1.heap.size := Nat.le_trans hK.size k1.size
          go_wp2_with (first
            | (at_builtin; refine wpList_append_own _ rfl (.tmp 33) (.tmp 35) 53 rfl w.heap.size 73 i0 (.agg #[.int .i64 0, .string ⟨#[]⟩, .int .i64 0, .int .i64 0]) 4 40 (by kernel_rfl) hi hz0 hz1 hz2 rfl (by decide) _ acc.length (acc.flatMap tokF) rfl (World.ownsRow.alloc HO1.out _) ⟨w1.heap.size + 1, 0, none⟩ 1 1 (tokF ⟨k, t, n, (i : Nat)⟩) rfl rfl HNEW.out (tokF_one _) (by unfold maxLen; omega) (by omega) (by simp; omega) ?_; intro v' w2 hown' hgrow _)
            | (go_at_call 32; refine (HSK2.out _).mono ?_; rintro e w5 ⟨rfl, rfl⟩))
          go_roundw
          case rel =>
            exact ⟨i + len, f, acc ++ [⟨k, t, n, (i : Nat)⟩], rfl, hil, by rw [List.length_append]; exact hal, ownGrown_kept ((hK.trans k1).alloc _) HO1.out (Nat.le_refl _) hgrow, GathR.snoc hown', hil2, HN.out.symm⟩
          case measure => simp [intOf]; omega
        · have hcb : (code != 0) = true := by simpa using hc
          have HR := Lib.hid (hbad hc)
          clear hbad hnext hc hlen hown
          go_wp2_with fail
          refine (HSC.out _ (hM.kept hK)).mono ?_
          rintro e w1 ⟨rfl, k1⟩
          go_wp2_with fail
          go_ret3
          unfold tokPost
          rw [HR.out]
          exact ⟨_, rfl, Recs.nil _ _ _, (hK.trans k1).alloc _⟩
      · have hend := lexF_end (f + 1) ((L s).drop p) p acc (by rw [hj, hdd, List.drop_eq_nil_iff, L_length]; omega)
        rw [hrun] at hend
        have HR := Lib.hid hend
        have HT := Lib.hid (hown.recs tokF_len)
        clear hend hrun hown hdd hj
        have hn : ¬ ((p : Int) + j < s.size) := by omega
        go_wp2_with fail
        go_ret3
        unfold tokPost
        rw [HR.out]
        exact ⟨_, rfl, HT.out, hK⟩
end Go.Proofs.YtdnjfpmngnkcfaaGreatDoor
/- What the small functions of the reference of the lexer compute: lower, digit, word, glued, run, dated, amount, name. -/
namespace Go.Proofs.YtdnjfpmngnkcfaaGreatDoor
open Go.RowKit

theorem rlower_any (c : UInt8) (w : World) : Calls Tryz.prog 38 #[.int .u8 c.toNat] w fun e w' => e = .returned (.bool (lowB c)) ∧ w = w' := by
  by_cases h : 97 ≤ c.toNat
  · have HR := Lib.hid (show lowB c = decide ((c.toNat : Int) ≤ 122) by simp [lowB, h]; omega)
    go_enter Tryz.func38, Tryz.ntmps38
    go_wp2_with fail
    go_ret
    exact ⟨ret_bool HR.out.symm, rfl⟩
  · have HR := Lib.hid (show lowB c = false by simp [lowB, h])
    go_enter Tryz.func38, Tryz.ntmps38
    go_wp2_with fail
    go_ret
    exact ⟨ret_bool HR.out.symm, rfl⟩
theorem rdigit_any (c : UInt8) (w : World) : Calls Tryz.prog 52 #[.int .u8 c.toNat] w fun e w' => e = .returned (.bool (isDig c)) ∧ w = w' := by
  by_cases h : 48 ≤ c.toNat
  · have HR := Lib.hid (show isDig c = decide ((c.toNat : Int) ≤ 57) by simp [isDig, h]; omega)
    go_enter Tryz.func52, Tryz.ntmps52
    go_wp2_with fail
    go_ret
    exact ⟨ret_bool HR.out.symm, rfl⟩
  · have HR := Lib.hid (show isDig c = false by simp [isDig, h])
    go_enter Tryz.func52, Tryz.ntmps52
    go_wp2_with fail
    go_ret
    exact ⟨ret_bool HR.out.symm, rfl⟩
theorem rword_any (c : UInt8) (w : World) : Calls Tryz.prog 39 #[.int .u8 c.toNat] w fun e w' => e = .returned (.bool (wordB c)) ∧ w = w' := by
  rcases wordB_cases c with ⟨h1, h2⟩ | ⟨h0, h1, h2⟩ | ⟨h0, h1, h3, h2⟩ | ⟨h0, h1, h3, h2⟩
  all_goals
    have HR := Lib.hid h2
    clear h2
    go_enter Tryz.func39, Tryz.ntmps39
    go_wp2_with (first | (go_at_call 52; refine (rdigit_any _ _).mono ?_; rintro e w' ⟨rfl, rfl⟩) | (go_at_call 38; refine (rlower_any _ _).mono ?_; rintro e w' ⟨rfl, rfl⟩))
    go_ret
    exact ⟨ret_bool HR.out.symm, rfl⟩
theorem rglue_cases (c : UInt8) :
    (gluedB c = true ∧ wordB c = true) ∨ (gluedB c = true ∧ wordB c = false ∧ 65 ≤ c.toNat ∧ c.toNat ≤ 90) ∨
    (gluedB c = ((c.toNat : Int) == 46) ∧ wordB c = false ∧ c.toNat < 65) ∨ (gluedB c = ((c.toNat : Int) == 46) ∧ wordB c = false ∧ 65 ≤ c.toNat ∧ 90 < c.toNat) := by
  have e : ((c.toNat : Int) == 46) = decide (c.toNat = 46) := by
    rw [Bool.eq_iff_iff, beq_iff_eq, decide_eq_true_eq]; omega
  rw [e]
  unfold gluedB
  cases hw : wordB c
  · by_cases h65 : 65 ≤ c.toNat
    · by_cases h90 : c.toNat ≤ 90
      · simp [h65, h90]
      · simp [h65, h90]; omega
    · simp [h65]; omega
  · simp
def okAt (l : List UInt8) (j : Nat) : Bool := match l[j]? with
  | some c => if j = 4 ∨ j = 7 then decide (c.toNat = 45) else isDig c
  | none => false
theorem byte45 (c : UInt8) : (some c == some (45 : UInt8)) = decide (c.toNat = 45) := by
  rw [Bool.eq_iff_iff, beq_iff_eq, decide_eq_true_eq, some_45]
theorem dated_ok (l : List UInt8) (hl : 10 ≤ l.length) : datedB l = (okAt l 0 && (okAt l 1 && (okAt l 2 && (okAt l 3 && (okAt l 4 && (okAt l 5 && (okAt l 6 && (okAt l 7 && (okAt l 8 && okAt l 9))))))))) := by
  match l, hl with
  | a0 :: a1 :: a2 :: a3 :: a4 :: a5 :: a6 :: a7 :: a8 :: a9 :: r, _ =>
    have e4 : (some a4 == some (45 : UInt8)) = decide (a4.toNat = 45) := byte45 a4
    have e7 : (some a7 == some (45 : UInt8)) = decide (a7.toNat = 45) := byte45 a7
    show (decide (10 ≤ (a0 :: a1 :: a2 :: a3 :: a4 :: a5 :: a6 :: a7 :: a8 :: a9 :: r).length) && ((isDig a0 && (isDig a1 && (isDig a2 && (isDig a3 && true)))) && ((some a4 == some (45 : UInt8)) && ((isDig a5 && (isDig a6 && true)) && ((some a7 == some (45 : UInt8)) && (isDig a8 && (isDig a9 && true))))))) = _
    rw [e4, e7]
    simp [okAt, Bool.and_assoc]
theorem dated_all {l : List UInt8} (hl : 10 ≤ l.length) (h : ∀ j, j < 10 → okAt l j = true) : datedB l = true := by
  rw [dated_ok l hl, h 0 (by decide), h 1 (by decide), h 2 (by decide), h 3 (by decide), h 4 (by decide), h 5 (by decide), h 6 (by decide), h 7 (by decide), h 8 (by decide), h 9 (by decide)]; rfl
theorem dated_not {l : List UInt8} (hl : 10 ≤ l.length) {j : Nat} (hj : j < 10) (h : okAt l j = false) : datedB l = false := by
  rw [dated_ok l hl]
  match j, hj with
  | 0, _ => rw [h]; rfl
  | 1, _ => rw [h]; simp
  | 2, _ => rw [h]; simp
  | 3, _ => rw [h]; simp
  | 4, _ => rw [h]; simp
  | 5, _ => rw [h]; simp
  | 6, _ => rw [h]; simp
  | 7, _ => rw [h]; simp
  | 8, _ => rw [h]; simp
  | 9, _ => rw [h]; simp
theorem dated_short {l : List UInt8} (hl : ¬ 10 ≤ l.length) : datedB l = false := by simp [datedB, hl]
theorem okAt_of {s : ByteArray} {i j : Nat} (h : i + j < s.size) : okAt ((L s).drop i) j = if j = 4 ∨ j = 7 then decide ((s[i + j]'h).toNat = 45) else isDig (s[i + j]'h) := by
  unfold okAt
  rw [List.getElem?_drop, L_get s (i + j) h]

def amtS (t : List UInt8) (most : Int) : Int := if most < digsN t then most + 1 else digsN t
theorem digsN_snoc (T : ByteArray) (k : Nat) (hk : k < T.size) : digsN ((L T).take (k + 1)) = if isDig (T[k]'hk) then 10 * digsN ((L T).take k) + dval (T[k]'hk) else digsN ((L T).take k) := by
  unfold digsN
  rw [L_take T k hk, List.filter_append]
  by_cases h : isDig (T[k]'hk) = true
  · rw [if_pos h, List.filter_cons_of_pos h, List.filter_nil, val_snoc]
  · rw [if_neg h, List.filter_cons_of_neg h, List.filter_nil, List.append_nil]
theorem digsN_mono (t : List UInt8) (k : Nat) : digsN (t.take k) ≤ digsN t := by
  unfold digsN
  have : t.filter isDig = (t.take k).filter isDig ++ (t.drop k).filter isDig := by rw [← List.filter_append, List.take_append_drop]
  rw [this, val_append]
  exact val_ge _ _
/-- what the reference's scanners leave -/
def rPost (r : SR) (i : Nat) (w : World) (e : Ending) (w' : World) : Prop :=
  ∃ (a : Int) (b : ByteArray) (c d z : Int), e = .returned (.tuple #[.agg #[.int .i64 a, .string b, .int .i64 c, .int .i64 d], .int .i64 z, .int .i64 r.code]) ∧ (r.code = 0 → a = r.k ∧ b = bs r.t ∧ c = r.n ∧ d = i ∧ z = (i : Int) + r.len) ∧ Kept w w'
theorem ext_mid (s : ByteArray) (i k : Nat) : L (s.extract i (i + k)) = ((L s).drop i).take k := by rw [L_extract]; simp

end Go.Proofs.YtdnjfpmngnkcfaaGreatDoor
/- Reserved words and identifiers: what the lexer and its reference answer. -/
namespace Go.Proofs.YtdnjfpmngnkcfaaGreatDoor
open Go.RowKit

def resW : List (List UInt8) := [[105, 102],
  [116, 104, 101, 110],
  [101, 108, 115, 101],
  [111, 114],
  [97, 110, 100],
  [110, 111, 116],
  [116, 114, 117, 101],
  [102, 97, 108, 115, 101],
  [116, 111, 100, 97, 121],
  [115, 104, 97, 114, 101],
  [100, 105, 118],
  [114, 111, 117, 110, 100],
  [109, 105, 110],
  [109, 97, 120],
  [112, 108, 117, 115],
  [109, 111, 110, 116, 104, 115],
  [100, 97, 121, 115],
  [121, 101, 97, 114, 115],
  [121, 101, 97, 114],
  [109, 111, 110, 116, 104],
  [116, 97, 98],
  [98, 97, 110, 100],
  [99, 111, 117, 110, 116],
  [115, 117, 109],
  [97, 108, 108],
  [97, 110, 121],
  [109, 111, 115, 116],
  [101, 110, 117, 109],
  [116, 97, 98, 108, 101],
  [114, 111, 119],
  [115, 99, 111, 112, 101],
  [109, 101, 109, 98, 101, 114, 115],
  [105, 110, 112, 117, 116],
  [100, 101, 102],
  [114, 117, 108, 101],
  [111, 102],
  [111, 118, 101, 114],
  [112, 114, 105, 111],
  [102, 114, 111, 109],
  [116, 111],
  [101, 110, 100],
  [119, 104, 101, 110],
  [105, 115],
  [115, 114, 99],
  [98, 111, 111, 108],
  [105, 110, 116],
  [109, 111, 110, 101, 121],
  [114, 97, 116, 101],
  [100, 97, 116, 101],
  [100, 111, 119, 110],
  [117, 112],
  [122, 101, 114, 111],
  [97, 119, 97, 121],
  [104, 97, 108, 102],
  [101, 118, 101, 110]]
def resB (l : List UInt8) : Bool := resW.contains l
theorem resB_or (s : ByteArray) : resB (L s) = ((s.toList == [105, 102]) || ((s.toList == [116, 104, 101, 110]) || ((s.toList == [101, 108, 115, 101]) || ((s.toList == [111, 114]) || ((s.toList == [97, 110, 100]) || ((s.toList == [110, 111, 116]) || ((s.toList == [116, 114, 117, 101]) || ((s.toList == [102, 97, 108, 115, 101]) || ((s.toList == [116, 111, 100, 97, 121]) || ((s.toList == [115, 104, 97, 114, 101]) || ((s.toList == [100, 105, 118]) || ((s.toList == [114, 111, 117, 110, 100]) || ((s.toList == [109, 105, 110]) || ((s.toList == [109, 97, 120]) || ((s.toList == [112, 108, 117, 115]) || ((s.toList == [109, 111, 110, 116, 104, 115]) || ((s.toList == [100, 97, 121, 115]) || ((s.toList == [121, 101, 97, 114, 115]) || ((s.toList == [121, 101, 97, 114]) || ((s.toList == [109, 111, 110, 116, 104]) || ((s.toList == [116, 97, 98]) || ((s.toList == [98, 97, 110, 100]) || ((s.toList == [99, 111, 117, 110, 116]) || ((s.toList == [115, 117, 109]) || ((s.toList == [97, 108, 108]) || ((s.toList == [97, 110, 121]) || ((s.toList == [109, 111, 115, 116]) || ((s.toList == [101, 110, 117, 109]) || ((s.toList == [116, 97, 98, 108, 101]) || ((s.toList == [114, 111, 119]) || ((s.toList == [115, 99, 111, 112, 101]) || ((s.toList == [109, 101, 109, 98, 101, 114, 115]) || ((s.toList == [105, 110, 112, 117, 116]) || ((s.toList == [100, 101, 102]) || ((s.toList == [114, 117, 108, 101]) || ((s.toList == [111, 102]) || ((s.toList == [111, 118, 101, 114]) || ((s.toList == [112, 114, 105, 111]) || ((s.toList == [102, 114, 111, 109]) || ((s.toList == [116, 111]) || ((s.toList == [101, 110, 100]) || ((s.toList == [119, 104, 101, 110]) || ((s.toList == [105, 115]) || ((s.toList == [115, 114, 99]) || ((s.toList == [98, 111, 111, 108]) || ((s.toList == [105, 110, 116]) || ((s.toList == [109, 111, 110, 101, 121]) || ((s.toList == [114, 97, 116, 101]) || ((s.toList == [100, 97, 116, 101]) || ((s.toList == [100, 111, 119, 110]) || ((s.toList == [117, 112]) || ((s.toList == [122, 101, 114, 111]) || ((s.toList == [97, 119, 97, 121]) || ((s.toList == [104, 97, 108, 102]) || ((s.toList == [101, 118, 101, 110])))))))))))))))))))))))))))))))))))))))))))))))))))))))) := by
  rw [toList_L]
  simp only [resB, resW, List.contains_cons, List.contains_nil, Bool.or_false]
set_option maxRecDepth 100000 in
set_option maxHeartbeats 8000000 in
theorem reserved_any (s : ByteArray) (w : World) :
    Calls Tryz.prog 117 #[.string s] w fun e w' => e = .returned (.bool (resB (L s))) ∧ w = w' := by
  have HS := Lib.hid (resB_or s)
  generalize resB (L s) = R at *
  go_enter Tryz.func117, Tryz.ntmps117
  go_wp2_with fail
  all_goals first
    | (rename_i a b; rw [a] at b; exact absurd b (by decide))
    | (go_ret; exact ⟨ret_bool (by rw [HS.out]; simp [*]), rfl⟩)

def lowH (l : List UInt8) : Bool := match l.head? with
  | some c => lowB c
  | none => false
def idB (l : List UInt8) : Bool := decide (0 < l.length) && (decide (l.length ≤ 16) && (lowH l && (l.all wordB && !resB l)))
theorem lead_all (p : UInt8 → Bool) (l : List UInt8) : lead_of p l = l.length ↔ l.all p = true := by
  constructor
  · intro h
    have := lead_of_all (p := p) (l := l)
    rwa [h, List.take_length] at this
  · intro h
    have := lead_of_app (p := p) (a := l) (b := []) h (.inl rfl)
    simpa using this
set_option maxRecDepth 100000 in
set_option maxHeartbeats 4000000 in
theorem isId_any (s : ByteArray) (hs : s.size ≤ 1000000) (w : World) :
    Calls Tryz.prog 103 #[.string s] w fun e w' => e = .returned (.bool (idB (L s))) ∧ w = w' := by
  have hid : idB (L s) = (decide (0 < s.size) && (decide (s.size ≤ 16) && (lowH (L s) && ((L s).all wordB && !resB (L s))))) := rfl
  by_cases h0 : 0 < s.size
  · have hlow : lowH (L s) = lowB (s[0]'h0) := by
      unfold lowH
      rw [List.head?_eq_getElem?, L_get s 0 h0]
    have hne : (s.toList != []) = true := by
      rw [toList_L, bne_iff_ne]
      intro e
      have := congrArg List.length e
      rw [L_length, List.length_nil] at this
      omega
    have hne2 : (s.toList == []) = false := by
      rw [toList_L, beq_eq_false_iff_ne]
      intro e
      have := congrArg List.length e
      rw [L_length, List.length_nil] at this
      omega
    have hla := lead_all wordB (L s)
    rw [L_length] at hla
    have HN := Lib.hid (fun w => nameLen_any s hs w)
    have HRS := Lib.hid (fun w => reserved_any s w)
    have h0i : (0 : Int) < s.size := by omega
    rw [hlow, decide_eq_true h0] at hid
    have hle := lead_of_le wordB (L s)
    rw [L_length] at hle
    cases hl : lowB (s[0]'h0)
    · have HR := Lib.hid (show idB (L s) = false by rw [hid, hl]; simp)
      clear hid hlow hla
      go_enter Tryz.func103, Tryz.ntmps103
      go_wp2_with (go_at_call 42; refine (lower_any _ _).mono ?_; rintro e w' ⟨rfl, rfl⟩)
      go_ret
      exact ⟨ret_bool HR.out.symm, rfl⟩
    · by_cases hw : lead_of wordB (L s) = s.size
      · rw [hl, hla.1 hw] at hid
        rw [hw] at HN
        have HR := Lib.hid (show idB (L s) = (decide (s.size ≤ 16) && !resB (L s)) by rw [hid]; simp)
        generalize resB (L s) = R at *
        by_cases h16 : s.size ≤ 16
        · have h16i : (s.size : Int) ≤ 16 := by omega
          have HR2 := Lib.hid (show idB (L s) = !R by rw [HR.out, decide_eq_true h16]; rfl)
          clear hid hlow hla hw
          cases R
          all_goals
            go_enter Tryz.func103, Tryz.ntmps103
            go_wp2_with (first
              | (go_at_call 42; refine (lower_any _ _).mono ?_; rintro e w' ⟨rfl, rfl⟩)
              | (go_at_call 58; refine (HN.out _).mono ?_; rintro e w' ⟨rfl, rfl⟩)
              | (go_at_call 117; refine (HRS.out _).mono ?_; rintro e w' ⟨rfl, rfl⟩))
            go_ret
            exact ⟨ret_bool HR2.out.symm, rfl⟩
        · have h16i : ¬ ((s.size : Int) ≤ 16) := by omega
          have HR2 := Lib.hid (show idB (L s) = false by rw [HR.out, decide_eq_false h16]; rfl)
          clear hid hlow hla hw
          go_enter Tryz.func103, Tryz.ntmps103
          go_wp2_with (first
            | (go_at_call 42; refine (lower_any _ _).mono ?_; rintro e w' ⟨rfl, rfl⟩)
            | (go_at_call 58; refine (HN.out _).mono ?_; rintro e w' ⟨rfl, rfl⟩)
            | (go_at_call 117; refine (HRS.out _).mono ?_; rintro e w' ⟨rfl, rfl⟩))
          go_ret
          exact ⟨ret_bool HR2.out.symm, rfl⟩
      · have hall : (L s).all wordB = false := by
          rw [Bool.eq_false_iff]; intro e; exact hw (hla.2 e)
        have HR := Lib.hid (show idB (L s) = false by rw [hid, hall]; simp)
        have hwb : ((lead_of wordB (L s) : Int) == s.size) = false := by rw [beq_eq_false_iff_ne]; omega
        clear hid hlow hla hw hall
        generalize lead_of wordB (L s) = n at *
        go_enter Tryz.func103, Tryz.ntmps103
        go_wp2_with (first
          | (go_at_call 42; refine (lower_any _ _).mono ?_; rintro e w' ⟨rfl, rfl⟩)
          | (go_at_call 58; refine (HN.out _).mono ?_; rintro e w' ⟨rfl, rfl⟩))
        go_ret
        exact ⟨ret_bool HR.out.symm, rfl⟩
  · have HR := Lib.hid (show idB (L s) = false by rw [hid, decide_eq_false h0]; rfl)
    have hz : s.size = 0 := by omega
    have hne : (s.toList != []) = false := by
      rw [toList_L, List.length_eq_zero_iff.1 (show (L s).length = 0 from hz)]; rfl
    have hne2 : (s.toList == []) = true := by
      rw [toList_L, List.length_eq_zero_iff.1 (show (L s).length = 0 from hz)]; rfl
    clear hid hz
    go_enter Tryz.func103, Tryz.ntmps103
    go_wp2_with fail
    go_ret
    exact ⟨ret_bool HR.out.symm, rfl⟩

theorem resW_len : resW.length = 55 := rfl
def resS : List ByteArray := resW.map bs
theorem resS_len : resS.length = 55 := rfl
theorem strs_new (w : World) (T : TypeId) (xs : List ByteArray) (c : Nat) : Strs (w.alloc (.cells (xs.map Value.string).toArray T)) (.slice (some ⟨w.heap.size, 0, none⟩) xs.length c) xs := by
  refine ⟨_, c, rfl, fun _ => ⟨w.heap.size, 0, rfl, by simp, fun j hj => ?_⟩⟩
  rw [World.cell?_alloc_at _ _ _ _ rfl]
  simp [List.getElem?_eq_getElem hj]
set_option maxRecDepth 100000 in
set_option maxHeartbeats 4000000 in
theorem rreserved_any (w : World) :
    Calls Tryz.prog 40 #[] w fun e w' => ∃ v, e = .returned v ∧ Strs w' v resS ∧ Kept w w' := by
  go_enter Tryz.func40, Tryz.ntmps40
  go_wp2_with fail
  go_ret
  exact ⟨_, rfl, strs_new w _ resS 55, (Kept.refl _).alloc _⟩
theorem neqH (X Y : ByteArray) : (X.toList == Y.toList) = decide (X = Y) := by
  rw [toList_L, toList_L]
  by_cases h : X = Y
  · rw [h]; simp
  · have : L X ≠ L Y := fun e => h (L_inj.1 e)
    simp [h, this]
theorem resB_mem (s : ByteArray) : resB (L s) = true ↔ ∃ j, ∃ h : j < resS.length, resS[j] = s := by
  unfold resB resS
  rw [List.contains_iff_mem]
  constructor
  · intro h
    obtain ⟨j, hj, e⟩ := List.getElem_of_mem h
    refine ⟨j, by simpa using hj, ?_⟩
    rw [List.getElem_map, e, bs_L]
  · rintro ⟨j, hj, e⟩
    rw [List.getElem_map] at e
    rw [← e, L_bs]
    exact List.getElem_mem _
set_option maxRecDepth 100000 in
set_option maxHeartbeats 4000000 in
theorem risId_any (s : ByteArray) (hs : s.size ≤ 1000000) (w : World) :
    Calls Tryz.prog 21 #[.string s] w fun e w' => e = .returned (.bool (idB (L s))) ∧ Kept w w' := by
  have hid : idB (L s) = (decide (0 < s.size) && (decide (s.size ≤ 16) && (lowH (L s) && ((L s).all wordB && !resB (L s))))) := rfl
  by_cases h0 : 0 < s.size
  · have hlow : lowH (L s) = lowB (s[0]'h0) := by
      unfold lowH
      rw [List.head?_eq_getElem?, L_get s 0 h0]
    have h0b : ((s.size : Int) == 0) = false := by rw [beq_eq_false_iff_ne]; omega
    have h0i : (0 : Int) < s.size := by omega
    rw [hlow, decide_eq_true h0] at hid
    by_cases h16 : s.size ≤ 16
    · rw [decide_eq_true h16] at hid
      have h16i : ¬ (16 < (s.size : Int)) := by omega
      cases hl : lowB (s[0]'h0)
      · have HR := Lib.hid (show idB (L s) = false by rw [hid, hl]; rfl)
        clear hid hlow
        go_enter Tryz.func21, Tryz.ntmps21
        go_wp2_with (go_at_call 38; refine (rlower_any _ _).mono ?_; rintro e w' ⟨rfl, rfl⟩)
        go_ret
        exact ⟨ret_bool HR.out.symm, Kept.refl _⟩
      · rw [hl] at hid
        have HID := Lib.hid (show idB (L s) = ((L s).all wordB && !resB (L s)) by rw [hid]; rfl)
        have HM := Lib.hid (resB_mem s)
        clear hid hlow
        go_enter Tryz.func21, Tryz.ntmps21
        go_wp2_with (go_at_call 38; refine (rlower_any _ _).mono ?_; rintro e w' ⟨rfl, rfl⟩)
        go_loop [3] (fun x => ∃ k : Nat, x = .int .i64 (k : Int) ∧ k ≤ s.size ∧ ((L s).take k).all wordB = true) (fun x => s.size - (intOf x).toNat)
        case atStart => exact ⟨0, rfl, Nat.zero_le _, rfl⟩
        case round =>
          obtain ⟨k, rfl, hk, hall⟩ := hrel
          by_cases hlt : k < s.size
          · have hki : (k : Int) < s.size := by omega
            cases hw : wordB (s[k]'hlt)
            · have HR := Lib.hid (show idB (L s) = false by
                have : (L s).all wordB = false := by rw [← List.take_append_drop k (L s), List.all_append, L_drop s k hlt, List.all_cons, hw]; simp
                rw [HID.out, this]; rfl)
              clear hall
              go_wp2_with (go_at_call 39; refine (rword_any _ _).mono ?_; rintro e w' ⟨rfl, rfl⟩)
              go_ret
              exact ⟨ret_bool HR.out.symm, Kept.refl _⟩
            · have HA := Lib.hid (show ((L s).take (k + 1)).all wordB = true by rw [L_take s k hlt, List.all_append, hall]; simp [hw])
              clear hall
              go_wp2_with (go_at_call 39; refine (rword_any _ _).mono ?_; rintro e w' ⟨rfl, rfl⟩)
              go_round
              case rel => exact ⟨k + 1, by go_num, hlt, HA.out⟩
              case measure => simp [intOf]; omega
          · have hki : ¬ ((k : Int) < s.size) := by omega
            rw [L_take_all s k hlt] at hall
            have HB := Lib.hid (show idB (L s) = !resB (L s) by rw [HID.out, hall]; rfl)
            clear hall
            go_wp2_with (go_at_call 40; refine (rreserved_any _).mono ?_; rintro e w5 ⟨v, rfl, hS, k5⟩)
            obtain ⟨A, cap, rfl, hA⟩ := hS
            rw [resS_len] at hA ⊢
            obtain ⟨b, off, rfl, hb, hc⟩ := hA (by decide)
            clear hA
            go_loop [5] (fun x => ∃ j : Nat, x = .int .i64 (j : Int) ∧ j ≤ 55 ∧ ∀ q, q < j → resS[q]? ≠ some s) (fun x => 55 - (intOf x).toNat)
            case atStart => exact ⟨0, rfl, by decide, fun q hq => absurd hq (by omega)⟩
            case round =>
              obtain ⟨j, rfl, hj, hno⟩ := hrel
              by_cases hj55 : j < 55
              · have hji : (j : Int) < 55 := by omega
                have hcell := hc j hj55
                have hgj : resS[j]? = some (resS[j]'(by rw [resS_len]; exact hj55)) := List.getElem?_eq_getElem _
                rw [hgj] at hcell
                have HNX := Lib.hid (show resS[j]'(by rw [resS_len]; exact hj55) ≠ s → ∀ q, q < j + 1 → resS[q]? ≠ some s from fun h q hq => by
                  by_cases e : q = j
                  · rw [e, hgj]; intro e2; exact h (Option.some.inj e2)
                  · exact hno q (by omega))
                have HYS := Lib.hid (show resS[j]'(by rw [resS_len]; exact hj55) = s → idB (L s) = false from fun h => by
                  rw [HB.out, HM.out.2 ⟨j, by rw [resS_len]; exact hj55, h⟩]; rfl)
                clear hno hgj hc
                simp only [Option.getD_some] at hcell
                generalize resS[j]'(by rw [resS_len]; exact hj55) = X at *
                cases hd : decide (X = s)
                · have hd' : X ≠ s := by simpa using hd
                  have HR := Lib.hid (HNX.out hd')
                  rw [← neqH] at hd
                  clear hd'
                  go_wp2_with fail
                  go_round
                  case rel => exact ⟨j + 1, by go_num, hj55, HR.out⟩
                  case measure => simp [intOf]; omega
                · have hd' : X = s := by simpa using hd
                  have HR := Lib.hid (HYS.out hd')
                  rw [← neqH] at hd
                  clear hd'
                  go_wp2_with fail
                  go_ret
                  exact ⟨ret_bool HR.out.symm, k5⟩
              · have hji : ¬ ((j : Int) < 55) := by omega
                have HR := Lib.hid (show idB (L s) = true by
                  have : resB (L s) = false := by
                    rw [Bool.eq_false_iff]
                    intro e
                    obtain ⟨q, hq, e2⟩ := HM.out.1 e
                    rw [resS_len] at hq
                    exact hno q (by omega) (by rw [List.getElem?_eq_getElem (by rw [resS_len]; exact hq), e2])
                  rw [HB.out, this]; rfl)
                clear hno hc
                go_wp2_with fail
                go_ret
                exact ⟨ret_bool HR.out.symm, k5⟩
    · have h16i : 16 < (s.size : Int) := by omega
      have HR := Lib.hid (show idB (L s) = false by rw [hid, decide_eq_false h16]; rfl)
      clear hid hlow
      go_enter Tryz.func21, Tryz.ntmps21
      go_wp2_with fail
      go_ret
      exact ⟨ret_bool HR.out.symm, Kept.refl _⟩
  · have HR := Lib.hid (show idB (L s) = false by rw [hid, decide_eq_false h0]; rfl)
    have hz : ((s.size : Int) == 0) = true := by rw [beq_iff_eq]; omega
    clear hid
    go_enter Tryz.func21, Tryz.ntmps21
    go_wp2_with fail
    go_ret
    exact ⟨ret_bool HR.out.symm, Kept.refl _⟩
end Go.Proofs.YtdnjfpmngnkcfaaGreatDoor
