/- Plain facts: parsing inverts formatting, and an accepted string is the formatted form of its number. No program stands here. -/
import Derived.Test.YtjeifmjcgemlgaaGreatDoorRgE
import Derived.Test.YtjeifmjcgemlgaaGreatDoorRgA
import Derived.Test.YtjeifmjcgemlgaaGreatDoorRgD
namespace Go.Proofs.YtjeifmjcgemlgaaGreatDoor

/-- what parsing the text of n answers -/
def rt (n : Int) : Int × Int := if n < -4611686018427387904 ∨ 4611686018427387904 < n then (0, 3) else (n, 0)
theorem absD_val (n : Int) : val (absD n) 0 = n.natAbs := val_decDigits _
theorem absD_dig (n : Int) : (absD n).all isDig = true := decDigits_all _
theorem absD_lead (n : Int) : lead (absD n) = true := decDigits_lead _
theorem absD_ne (n : Int) : absD n ≠ [] := decDigits_ne _
theorem absD_48 {n : Int} (h : n < 0) : absD n ≠ [48] := by
  intro e
  have h1 := absD_val n
  rw [e] at h1
  have h2 : val [48] 0 = 0 := by decide
  omega
theorem signed_abs (n : Int) : signed (decide (n < 0)) n.natAbs = n := by
  unfold signed
  by_cases h : n < 0
  · rw [decide_eq_true h, if_pos rfl]; omega
  · rw [decide_eq_false h, if_neg (by decide)]; omega
theorem lead_bad {l : List UInt8} (hn : l ≠ []) (hl : lead l = true) : badL l l.length = false := by
  have hp := List.length_pos_iff.2 hn
  unfold badL
  rw [Bool.or_eq_false_iff, Bool.and_eq_false_iff, decide_eq_false_iff_not, decide_eq_false_iff_not]
  refine ⟨by omega, ?_⟩
  rcases lead_iff.1 hl with h | h
  · left; omega
  · right
    rw [beq_eq_false_iff_ne]; exact h
theorem numR_abs (n : Int) : numR (absD n) (decide (n < 0)) = rt n := by
  have hv := absD_val n
  unfold numR rt
  by_cases h19 : 19 < (absD n).length
  · have hh : (absD n).head? ≠ some 48 := by
      rcases lead_iff.1 (absD_lead n) with h | h
      · omega
      · exact h
    have hb := val_big (absD_dig n) h19 hh
    rw [hv] at hb
    unfold BB at hb
    rw [if_pos h19, if_pos (by omega)]
  · rw [if_neg h19, hv, signed_abs]
    unfold BB
    by_cases hb : 4611686018427387904 < n.natAbs
    · rw [if_pos hb, if_pos (by omega)]
    · rw [if_neg hb, if_neg (by omega)]
theorem refI_num (n : Int) : refI (L (numS n)) = rt n := by
  unfold refI
  rw [(numS_neg_b n).1, (numS_neg_b n).2, if_neg, numR_abs]
  rintro (h | h | ⟨h1, h2⟩)
  · rw [adB_iff.2 ⟨absD_ne n, absD_dig n⟩] at h; cases h
  · rw [lead_bad (absD_ne n) (absD_lead n)] at h; cases h
  · exact absD_48 (by simpa using h1) h2
theorem all_zeros (j : Nat) : (List.replicate j (48 : UInt8)).all isDig = true := by
  rw [List.all_eq_true]
  intro c hc
  rw [(List.mem_replicate.1 hc).2]; decide
theorem padD_dig (n : Int) (q : Nat) : (padD n q).all isDig = true := by
  unfold padD; rw [List.all_append, all_zeros, absD_dig]; rfl
theorem padD_val (n : Int) (q : Nat) : val (padD n q) 0 = n.natAbs := by
  unfold padD
  rw [show val (List.replicate (q + 1 - (absD n).length) 48 ++ absD n) 0 = val (absD n) 0 from ?_, absD_val]
  generalize q + 1 - (absD n).length = j
  induction j with
  | zero => rfl
  | succ j ih => rw [List.replicate_succ, List.cons_append, val]; exact ih
theorem padD_len (n : Int) (q : Nat) : q + 1 ≤ (padD n q).length := by
  unfold padD; rw [List.length_append, List.length_replicate]; omega
theorem padD_ne (n : Int) (q : Nat) : padD n q ≠ [] := by
  intro e
  have := padD_len n q
  rw [e] at this; simp at this
theorem strip_num {T : List UInt8} {m : Nat} (hd : T.all isDig = true) (hn : T ≠ []) (hv : val T 0 = m) : strip T = Lib.decDigits m := by
  have h := decDigits_val (strip T) (strip_all hd) ((strip_lead T).resolve_left (strip_ne hn)) (strip_ne hn)
  rw [strip_val, hv] at h
  exact h.symm

theorem fixT_parts (n : Int) (q : Nat) : negB (fixT n q) = decide (n < 0) ∧
    bodyL (fixT n q) = (padD n q).take ((padD n q).length - q) ++ ([46] ++ (padD n q).drop ((padD n q).length - q)) := by
  have hlen := padD_len n q
  by_cases h : n < 0
  · have e : fixT n q = 45 :: ((padD n q).take ((padD n q).length - q) ++ ([46] ++ (padD n q).drop ((padD n q).length - q))) := by
      rw [fixT, sgn, if_pos h]; rfl
    rw [e]
    exact ⟨by rw [decide_eq_true h]; rfl, rfl⟩
  · have e : fixT n q = (padD n q).take ((padD n q).length - q) ++ ([46] ++ (padD n q).drop ((padD n q).length - q)) := by
      rw [fixT, sgn, if_neg h]; rfl
    rw [e]
    have hneg : negB ((padD n q).take ((padD n q).length - q) ++ ([46] ++ (padD n q).drop ((padD n q).length - q))) = false := by
      unfold negB
      rw [beq_eq_false_iff_ne]
      intro hh
      have hd := padD_dig n q
      have hne := padD_ne n q
      generalize padD n q = T at *
      match T, hne with
      | c :: r, _ =>
        rw [show (c :: r).length - q = ((c :: r).length - q - 1) + 1 by simp only [List.length_cons] at hlen ⊢; omega, List.take_succ_cons, List.cons_append, List.head?_cons] at hh
        rw [List.all_cons, Bool.and_eq_true] at hd
        have hc : c = 45 := Option.some.inj hh
        rw [hc] at hd
        exact absurd hd.1 (by decide)
    exact ⟨by rw [hneg, decide_eq_false h], by rw [bodyL, hneg]; rfl⟩

theorem refF_num (n q : Int) (q1 : 1 ≤ q) : refF (fixT n q.toNat) q = rt n := by
  have hp := fixT_parts n q.toNat
  have hlen := padD_len n q.toNat
  have hd := padD_dig n q.toNat
  have hne := padD_ne n q.toNat
  have hv := padD_val n q.toNat
  have hT : 1 < (padD n q.toNat).length - q.toNat → padD n q.toNat = absD n := by
    intro h
    unfold padD at h ⊢
    rw [List.length_append, List.length_replicate] at h
    rw [show q.toNat + 1 - (absD n).length = 0 by omega]; rfl
  unfold refF
  rw [hp.1, hp.2]
  generalize padD n q.toNat = T at *
  obtain ⟨k, hk⟩ : ∃ k, k = T.length - q.toNat := ⟨_, rfl⟩
  rw [← hk] at hT ⊢
  have hbl : ((T.take k ++ ([46] ++ T.drop k)).length : Int) - q - 1 = (k : Int) := by
    simp only [List.length_append, List.length_take, List.length_drop, List.length_cons, List.length_nil]
    omega
  have hkn : ((k : Int)).toNat = k := by omega
  rw [hbl, hkn, if_neg (by omega)]
  have htl : (T.take k).length = k := by rw [List.length_take]; omega
  have e1 : (T.take k ++ ([46] ++ T.drop k)).take k = T.take k := by
    rw [List.take_append_of_le_length (by omega), List.take_of_length_le (by omega)]
  have e2 : (T.take k ++ ([46] ++ T.drop k)).drop (k + 1) = T.drop k := by
    rw [List.drop_append, htl, List.drop_of_length_le (by omega), show k + 1 - k = 1 by omega]; rfl
  have e3 : (T.take k ++ ([46] ++ T.drop k))[k]? = some 46 := by
    rw [List.getElem?_append_right (by omega), htl, Nat.sub_self]; rfl
  have d1 : (T.take k).all isDig = true := by
    rw [List.all_eq_true] at *; exact fun x hx => hd x (List.mem_of_mem_take hx)
  have d2 : (T.drop k).all isDig = true := by
    rw [List.all_eq_true] at *; exact fun x hx => hd x (List.mem_of_mem_drop hx)
  have n1 : T.take k ≠ [] := by intro e; rw [e] at htl; simp at htl; omega
  have n2 : T.drop k ≠ [] := by
    intro e
    have := congrArg List.length e
    rw [List.length_drop] at this; simp at this; omega
  have hbad : badL (T.take k ++ ([46] ++ T.drop k)) (k : Int) = false := by
    unfold badL
    rw [Bool.or_eq_false_iff, Bool.and_eq_false_iff, decide_eq_false_iff_not, decide_eq_false_iff_not]
    refine ⟨by omega, ?_⟩
    by_cases h1 : 1 < k
    · right
      rw [beq_eq_false_iff_ne]
      intro e
      have hk0 : ¬ k = 0 := by omega
      rw [List.head?_append, List.head?_take, if_neg hk0, hT h1] at e
      have hl1 : 1 < (absD n).length := by
        rw [← hT h1]; omega
      cases hq : (absD n).head? with
      | none => exact absurd (List.head?_eq_none_iff.1 hq) (absD_ne n)
      | some c =>
        rw [hq] at e
        have hc : c = 48 := Option.some.inj e
        rcases lead_iff.1 (absD_lead n) with h | h
        · omega
        · exact h (by rw [hq, hc])
    · left; omega
  have hok : okF (T.take k ++ ([46] ++ T.drop k)) k = true := by
    unfold okF
    rw [e1, e2, e3, adB_iff.2 ⟨n1, d1⟩, adB_iff.2 ⟨n2, d2⟩, hbad]; rfl
  rw [if_pos hok, e1, e2, List.take_append_drop]
  have hs : strip T = absD n := strip_num hd hne hv
  unfold finF
  rw [hs, if_neg (fun h => absD_48 (by simpa using h.1) h.2), numR_abs]
theorem refP_num (n p : Int) : refP (L (fixS n (max 0 (min p 9)))) p = rt n := by
  have e : max 0 (min p 9) = min (max p 0) 9 := by omega
  rw [e]
  unfold refP fixS
  by_cases h : min (max p 0) 9 = 0
  · rw [if_pos h, if_pos h]; exact refI_num n
  · rw [if_neg h, if_neg h, L_bs]; exact refF_num n _ (by omega)
end Go.Proofs.YtjeifmjcgemlgaaGreatDoor
/- Plain facts: a string that the parser accepts is the formatted form of its number; lines concatenate to the text. No program stands here. -/
namespace Go.Proofs.YtjeifmjcgemlgaaGreatDoor

theorem body_sgn (l : List UInt8) : l = (if negB l then [45] else []) ++ bodyL l := by
  cases h : negB l
  · rw [bodyL, h]; rfl
  · rw [bodyL, h]
    unfold negB at h
    rw [beq_iff_eq] at h
    match l, h with
    | c :: r, h =>
      rw [show c = 45 from Option.some.inj h]; rfl
theorem no_code {a c v : Int} (hc : c ≠ 0) (h : (a, c) = (v, 0)) : False := hc (congrArg Prod.snd h)
theorem numR_ok {l : List UInt8} {neg : Bool} {v : Int} (h : numR l neg = (v, 0)) : v = signed neg (val l 0) := by
  unfold numR at h
  split at h
  · exact (no_code (by decide) h).elim
  · split at h
    · exact (no_code (by decide) h).elim
    · exact (congrArg Prod.fst h).symm
theorem absD_signed (neg : Bool) (m : Nat) : absD (signed neg m) = Lib.decDigits m := by
  unfold absD signed
  cases neg <;> simp
theorem sgn_signed (neg : Bool) (m : Nat) (h : neg = true → m ≠ 0) : sgn (signed neg m) = if neg then [45] else [] := by
  unfold sgn signed
  cases neg
  · simp
  · have := h rfl
    rw [if_pos (by simp; omega)]; rfl
theorem numS_parts (n : Int) : L (numS n) = sgn n ++ absD n := by
  by_cases h : n < 0
  · rw [numS_neg h, sgn, if_pos h]; rfl
  · rw [numS_pos h, sgn, if_neg h]; rfl
theorem refI_canon {l : List UInt8} {v : Int} (h : refI l = (v, 0)) : L (numS v) = l := by
  unfold refI at h
  split at h
  · exact (no_code (by decide) h).elim
  · rename_i hc
    have hv := numR_ok h
    have ha : adB (bodyL l) = true := by
      cases ha : adB (bodyL l)
      · exact absurd (.inl ha) hc
      · rfl
    have hb : badL (bodyL l) (bodyL l).length = false := by
      cases hb : badL (bodyL l) (bodyL l).length
      · rfl
      · exact absurd (.inr (.inl hb)) hc
    obtain ⟨hn, hd⟩ := adB_iff.1 ha
    have hl := badL_lead hn hb
    have hz : negB l = true → val (bodyL l) 0 ≠ 0 := fun h1 h2 => hc (.inr (.inr ⟨h1, val_zero_lead hd hl hn h2⟩))
    rw [numS_parts, hv, sgn_signed _ _ hz, absD_signed, decDigits_val _ hd hl hn]
    exact (body_sgn l).symm
theorem strip_zeros (T : List UInt8) : T = List.replicate (T.length - (strip T).length) 48 ++ strip T := by
  induction T with
  | nil => rfl
  | cons c r ih =>
    cases r with
    | nil => simp [strip]
    | cons d r =>
      rw [strip]
      split
      · rename_i hc
        have hle : (strip (d :: r)).length ≤ (d :: r).length := by
          have := congrArg List.length ih
          rw [List.length_append, List.length_replicate] at this
          omega
        rw [show (c :: d :: r).length - (strip (d :: r)).length = ((d :: r).length - (strip (d :: r)).length) + 1 by rw [List.length_cons]; omega, List.replicate_succ, List.cons_append, ← ih, hc]
      · simp
theorem refF_canon {l : List UInt8} {q v : Int} (q1 : 1 ≤ q) (h : refF l q = (v, 0)) : fixT v q.toNat = l := by
  unfold refF at h
  split at h
  · exact (no_code (by decide) h).elim
  · rename_i hk
    split at h
    · rename_i hok
      obtain ⟨k, hK⟩ : ∃ k : Nat, (((bodyL l).length : Int) - q - 1) = (k : Int) := ⟨(((bodyL l).length : Int) - q - 1).toNat, by omega⟩
      have hkn : ((k : Int)).toNat = k := by omega
      rw [hK] at hk hok h
      rw [hkn] at hok h
      have hbody := body_sgn l
      generalize bodyL l = b at *
      have hkl : k < b.length := by omega
      have hb : b = b.take k ++ b[k] :: b.drop (k + 1) := by
        rw [← List.drop_eq_getElem_cons hkl, List.take_append_drop]
      unfold okF at hok
      rw [Bool.and_eq_true, Bool.and_eq_true, Bool.and_eq_true, List.getElem?_eq_getElem hkl] at hok
      obtain ⟨h46, ha1, ha2, hbad⟩ := hok
      have hc46 : b[k] = 46 := by simpa using h46
      obtain ⟨n1, d1⟩ := adB_iff.1 ha1
      obtain ⟨n2, d2⟩ := adB_iff.1 ha2
      have htl : (b.take k).length = k := by rw [List.length_take]; omega
      have hdl : (b.drop (k + 1)).length = q.toNat := by rw [List.length_drop]; omega
      have hhead : 1 < k → (b.take k).head? ≠ some 48 := by
        intro h1 e
        rw [List.head?_take, if_neg (by omega)] at e
        unfold badL at hbad
        rw [e] at hbad
        simp at hbad
        omega
      rw [hc46] at hb
      generalize b.take k = A at *
      generalize b.drop (k + 1) = C at *
      have hTd : (A ++ C).all isDig = true := by rw [List.all_append, d1, d2]; rfl
      have hTn : A ++ C ≠ [] := by simp [n1]
      have hTl : (A ++ C).length = k + q.toNat := by rw [List.length_append, htl, hdl]
      unfold finF at h
      split at h
      · exact (no_code (by decide) h).elim
      · rename_i hz0
        have hv := numR_ok h
        have s1 := strip_all hTd
        have s2 := strip_ne hTn
        have s3 := (strip_lead (A ++ C)).resolve_left s2
        have hz : negB l = true → val (strip (A ++ C)) 0 ≠ 0 := fun h1 h2 => hz0 ⟨h1, val_zero_lead s1 s3 s2 h2⟩
        have hab : absD v = strip (A ++ C) := by rw [hv, absD_signed, decDigits_val _ s1 s3 s2]
        have hpad : padD v q.toNat = A ++ C := by
          unfold padD
          rw [hab]
          by_cases h1 : 1 < k
          · have hst : strip (A ++ C) = A ++ C := by
              refine strip_head ?_
              rw [List.head?_append]
              cases hq : A.head? with
              | none => exact absurd (List.head?_eq_none_iff.1 hq) n1
              | some c => intro e; exact hhead h1 (by rw [hq]; exact e)
            rw [hst, hTl, show q.toNat + 1 - (k + q.toNat) = 0 by omega]; rfl
          · have := strip_zeros (A ++ C)
            rw [hTl, show k + q.toNat = q.toNat + 1 by omega] at this
            exact this.symm
        have hd2 : A.length = k := htl
        rw [fixT, hpad, hTl, hv, sgn_signed _ _ hz, Nat.add_sub_cancel, List.take_append_of_le_length (by omega), List.take_of_length_le (by omega), List.drop_append_of_le_length (by omega), List.drop_of_length_le (by omega)]
        conv => rhs; rw [hbody, hb]
        simp
    · exact (no_code (by decide) h).elim
theorem refP_canon {s : ByteArray} {p v : Int} (h : refP (L s) p = (v, 0)) : fixS v (max 0 (min p 9)) = s := by
  have e : max 0 (min p 9) = min (max p 0) 9 := by omega
  rw [e]
  unfold refP at h
  unfold fixS
  by_cases hq : min (max p 0) 9 = 0
  · rw [if_pos hq] at h ⊢
    exact L_inj.1 (refI_canon h)
  · rw [if_neg hq] at h ⊢
    rw [← L_inj, L_bs]
    exact refF_canon (by omega) h

/-- the lines, one behind the other from st on, end at e -/
def Chain (s : ByteArray) : Nat → List ByteArray → Nat → Prop
  | st, [], e => e = st
  | st, x :: xs, e => ∃ (m : Nat) (h : m < s.size), st ≤ m ∧ x = s.extract st m ∧ (s[m]'h).toNat = 10 ∧ Chain s (m + 1) xs e
theorem lns_chain (s : ByteArray) (n : Nat) : ∀ (pos st : Nat) (x : List ByteArray × Nat), pos + n = s.size → st ≤ pos → lns s ((L s).drop pos) pos st = some x → Chain s st x.1 x.2 := by
  induction n with
  | zero =>
    intro pos st x hp hst h
    rw [List.drop_of_length_le (by rw [L_length]; omega), lns_end] at h
    cases h
    rfl
  | succ n ih =>
    intro pos st x hp hst h
    have hlt : pos < s.size := by omega
    rw [L_drop s pos hlt] at h
    by_cases h10 : (s[pos]'hlt).toNat = 10
    · rw [lns_line _ h10] at h
      obtain ⟨y, hy, rfl⟩ := Option.map_eq_some_iff.1 h
      exact ⟨pos, hlt, hst, rfl, h10, ih (pos + 1) (pos + 1) y (by omega) (Nat.le_refl _) hy⟩
    · by_cases hok : (s[pos]'hlt).toNat = 9 ∨ (32 ≤ (s[pos]'hlt).toNat ∧ (s[pos]'hlt).toNat ≤ 126)
      · rw [lns_ok _ h10 hok] at h
        exact ih (pos + 1) st x (by omega) (by omega) h
      · rw [lns_bad _ h10 hok] at h; cases h
/-- what the lines of a text say of it -/
theorem linR_chain (s : ByteArray) : ((linR s).2 ≠ 0 ∧ (linR s).1 = []) ∨ ((linR s).2 = 0 ∧ Chain s 0 (linR s).1 s.size) := by
  unfold linR
  split
  · exact .inl ⟨by decide, rfl⟩
  · cases h : lns s (L s) 0 0 with
    | none => exact .inl ⟨by show (2 : Int) ≠ 0; decide, rfl⟩
    | some x =>
      obtain ⟨l, e⟩ := x
      dsimp only
      split
      · rename_i he
        refine .inr ⟨rfl, ?_⟩
        have := lns_chain s s.size 0 0 (l, e) (by omega) (Nat.le_refl _) (by rw [List.drop_zero]; exact h)
        rw [← he]; exact this
      · exact .inl ⟨by decide, rfl⟩
end Go.Proofs.YtjeifmjcgemlgaaGreatDoor
/- Typed values: types, bounds, members, in plain Lean. k kind, e enumeration, n number, ms the members of the enumerations. -/
namespace Go.Proofs.YtjeifmjcgemlgaaGreatDoor

/-- members of the enumeration e -/
def memS (e : Int) (ms : List (List ByteArray)) : List ByteArray := ms[e.toNat]?.getD []
/-- the type is valid -/
def vtB (k e : Int) (ms : List (List ByteArray)) : Bool :=
  if k = 6 then decide (0 ≤ e) && decide (e < ms.length) else decide (1 ≤ k) && (decide (k ≤ 5) && decide (e = 0))
/-- the bounds of a valid type -/
def bndV (k e : Int) (ms : List (List ByteArray)) : Int × Int :=
  if k = 1 then (0, 1) else if k = 2 then (-1000000000000, 1000000000000) else if k = 3 then (-1000000000000000, 1000000000000000)
  else if k = 4 then (-1000000000, 1000000000) else if k = 5 then (0, 109572) else (0, (memS e ms).length - 1)
def bndS (k e : Int) (ms : List (List ByteArray)) : Int × Int := if vtB k e ms then bndV k e ms else (0, -1)
def inB (n k e : Int) (ms : List (List ByteArray)) : Bool := decide ((bndS k e ms).1 ≤ n) && decide (n ≤ (bndS k e ms).2)
def validB (k e n : Int) (ms : List (List ByteArray)) : Bool := vtB k e ms && inB n k e ms
/-- where a text stands first in a list, from i on -/
def findS (s : ByteArray) : List ByteArray → Nat → Option Nat
  | [], _ => none
  | x :: r, i => if x = s then some i else findS s r (i + 1)
theorem vtB_six {e : Int} {ms : List (List ByteArray)} : vtB 6 e ms = (decide (0 ≤ e) && decide (e < ms.length)) := by rw [vtB, if_pos rfl]
theorem vtB_low {k e : Int} {ms : List (List ByteArray)} (h : k ≠ 6) : vtB k e ms = (decide (1 ≤ k) && (decide (k ≤ 5) && decide (e = 0))) := by rw [vtB, if_neg h]
/-- the kinds of a valid type -/
theorem vtB_cases {k e : Int} {ms : List (List ByteArray)} (h : vtB k e ms = true) :
    (e = 0 ∧ (k = 1 ∨ k = 2 ∨ k = 3 ∨ k = 4 ∨ k = 5)) ∨ (k = 6 ∧ 0 ≤ e ∧ e < ms.length) := by
  by_cases h6 : k = 6
  · subst h6
    rw [vtB_six] at h
    simp only [Bool.and_eq_true, decide_eq_true_eq] at h
    exact .inr ⟨rfl, h.1, h.2⟩
  · rw [vtB_low h6] at h
    simp only [Bool.and_eq_true, decide_eq_true_eq] at h
    exact .inl ⟨h.2.2, by omega⟩
theorem findS_some {s : ByteArray} : ∀ {l : List ByteArray} {i j : Nat}, findS s l i = some j → i ≤ j ∧ l[j - i]? = some s ∧ ∀ m, m < j - i → l[m]? ≠ some s
  | [], i, j, h => by simp [findS] at h
  | x :: r, i, j, h => by
    rw [findS] at h
    by_cases hx : x = s
    · rw [if_pos hx] at h
      obtain rfl := Option.some.inj h
      subst hx
      refine ⟨Nat.le_refl _, by simp, fun m hm => absurd hm (by omega)⟩
    · rw [if_neg hx] at h
      obtain ⟨h1, h2, h3⟩ := findS_some h
      have e : j - i = (j - (i + 1)) + 1 := by omega
      refine ⟨by omega, by rw [e, List.getElem?_cons_succ]; exact h2, fun m hm => ?_⟩
      cases m with
      | zero => rw [List.getElem?_cons_zero]; intro hc; exact hx (Option.some.inj hc)
      | succ m => rw [List.getElem?_cons_succ]; exact h3 m (by omega)
theorem findS_none {s : ByteArray} : ∀ {l : List ByteArray} {i : Nat}, findS s l i = none → ∀ m : Nat, l[m]? ≠ some s
  | [], i, _, m => by simp
  | x :: r, i, h, m => by
    rw [findS] at h
    by_cases hx : x = s
    · rw [if_pos hx] at h; exact absurd h (by simp)
    · rw [if_neg hx] at h
      cases m with
      | zero => rw [List.getElem?_cons_zero]; intro hc; exact hx (Option.some.inj hc)
      | succ m => rw [List.getElem?_cons_succ]; exact findS_none h m
end Go.Proofs.YtjeifmjcgemlgaaGreatDoor
/- Typed values: the definitions that both packages compute, in plain Lean. k kind, e enumeration, n number, ms the members of the enumerations. -/
namespace Go.Proofs.YtjeifmjcgemlgaaGreatDoor

/-- the text of a valid value -/
noncomputable def vtext (k e n : Int) (ms : List (List ByteArray)) : ByteArray :=
  if k = 1 then (if n = 0 then ⟨#[102, 97, 108, 115, 101]⟩ else ⟨#[116, 114, 117, 101]⟩) else if k = 2 then numS n else if k = 3 then fixS n 2
  else if k = 4 then fixS n 4 ++ ⟨#[37]⟩ else if k = 5 then dateS n else (memS e ms)[n.toNat]?.getD ⟨#[]⟩
noncomputable def vfmtS (k e n : Int) (ms : List (List ByteArray)) : ByteArray × Int :=
  if vtB k e ms then (if inB n k e ms then (vtext k e n ms, 0) else (⟨#[]⟩, 3)) else (⟨#[]⟩, 8)
/-- the number of a text of a valid type, and an error -/
noncomputable def vnumS (s : ByteArray) (k e : Int) (ms : List (List ByteArray)) : Int × Int :=
  if k = 1 then (if s = ⟨#[102, 97, 108, 115, 101]⟩ then (0, 0) else if s = ⟨#[116, 114, 117, 101]⟩ then (1, 0) else (0, 2))
  else if k = 2 then refI (L s) else if k = 3 then refP (L s) 2
  else if k = 4 then (if (L s).getLast? = some 37 then refP (L s).dropLast 4 else (0, 2))
  else if k = 5 then dparS s else match findS s (memS e ms) 0 with | some i => ((i : Int), 0) | none => (0, 6)
/-- kind, enumeration, number, error -/
noncomputable def vparS (s : ByteArray) (k e : Int) (ms : List (List ByteArray)) : Int × Int × Int × Int :=
  if vtB k e ms then (if (vnumS s k e ms).2 = 0 then (if inB (vnumS s k e ms).1 k e ms then (k, e, (vnumS s k e ms).1, 0) else (0, 0, 0, 3)) else (0, 0, 0, (vnumS s k e ms).2)) else (0, 0, 0, 8)

end Go.Proofs.YtjeifmjcgemlgaaGreatDoor
/- Texts of lines: lines that are joined are split again, and lines that were split are the text. -/
namespace Go.Proofs.YtjeifmjcgemlgaaGreatDoor

/-- the text of lines -/
def textL (ls : List (List UInt8)) : List UInt8 := ls.flatMap fun l => l ++ [10]
/-- a line: printable bytes -/
def Line (l : List UInt8) : Prop := ∀ c ∈ l, c.toNat ≠ 10 ∧ (c.toNat = 9 ∨ (32 ≤ c.toNat ∧ c.toNat ≤ 126))
theorem textL_cons (l : List UInt8) (ls : List (List UInt8)) : textL (l :: ls) = l ++ 10 :: textL ls := by
  unfold textL; rw [List.flatMap_cons]; simp
theorem lns_over (s : ByteArray) : ∀ (l r : List UInt8) (pos st : Nat), Line l → lns s (l ++ 10 :: r) pos st = (lns s r (pos + l.length + 1) (pos + l.length + 1)).map (fun p => (s.extract st (pos + l.length) :: p.1, p.2))
  | [], r, pos, st, _ => by
    rw [List.nil_append, lns_line 10 rfl]; rfl
  | c :: l, r, pos, st, h => by
    have hc := h c (by simp)
    rw [List.cons_append, lns_ok c hc.1 hc.2, lns_over s l r (pos + 1) st (fun x hx => h x (by simp [hx])), List.length_cons, show pos + 1 + l.length = pos + (l.length + 1) by omega]
theorem lns_text (s : ByteArray) : ∀ (ls : List (List UInt8)) (pos : Nat), (∀ l ∈ ls, Line l) → pos ≤ s.size → (L s).drop pos = textL ls → lns s ((L s).drop pos) pos pos = some (ls.map bs, s.size)
  | [], pos, _, hp, hd => by
    rw [hd]
    have : (L s).length - pos = 0 := by rw [← List.length_drop, hd]; rfl
    rw [L_length] at this
    show lns s [] pos pos = _
    rw [lns_end, show pos = s.size by omega]; rfl
  | l :: ls, pos, hl, hp, hd => by
    have hd' := hd
    rw [textL_cons] at hd'
    have hlen := congrArg List.length hd'
    rw [List.length_drop, L_length, List.length_append, List.length_cons] at hlen
    have hd2 : (L s).drop (pos + l.length + 1) = textL ls := by
      rw [show pos + l.length + 1 = pos + (l.length + 1) by omega, ← List.drop_drop, hd', ← List.drop_drop, List.drop_left]; rfl
    have ih := lns_text s ls (pos + l.length + 1) (fun x hx => hl x (by simp [hx])) (by omega) hd2
    rw [hd2] at ih
    rw [hd', lns_over s l (textL ls) pos pos (hl l (by simp)), ih]
    show some (s.extract pos (pos + l.length) :: ls.map bs, s.size) = some (bs l :: ls.map bs, s.size)
    congr 2
    congr 1
    rw [← L_inj, L_extract, hd', L_bs, Nat.add_sub_cancel_left, List.take_left]
/-- lines that are joined are split again -/
theorem linR_text {ls : List (List UInt8)} (hl : ∀ l ∈ ls, Line l) (hz : (textL ls).length ≤ 65536) : linR (bs (textL ls)) = (ls.map bs, 0) := by
  have h := lns_text (bs (textL ls)) ls 0 hl (Nat.zero_le _) (by rw [L_bs]; rfl)
  rw [List.drop_zero] at h
  unfold linR
  rw [if_neg (by rw [bs_size]; omega), h]
  dsimp only
  rw [if_pos rfl]
theorem chain_text (s : ByteArray) : ∀ (xs : List ByteArray) (st : Nat), Chain s st xs s.size → (L s).drop st = textL (xs.map L)
  | [], st, h => by
    have e : s.size = st := h
    rw [← e, List.drop_of_length_le (by rw [L_length]; exact Nat.le_refl _)]; rfl
  | x :: xs, st, h => by
    obtain ⟨m, hm, hst, rfl, h10, hc⟩ := h
    have ih := chain_text s xs (m + 1) hc
    rw [List.map_cons, textL_cons, L_extract, ← ih]
    have e10 : s[m] = 10 := UInt8.toNat_inj.1 (show (s[m]'hm).toNat = (10 : UInt8).toNat from h10)
    have h1 := L_drop s m hm
    rw [e10] at h1
    rw [← h1]
    have : (L s).drop m = ((L s).drop st).drop (m - st) := by rw [List.drop_drop, show st + (m - st) = m by omega]
    rw [this, List.take_append_drop]
/-- lines that were split are the text -/
theorem linR_canon {s : ByteArray} {xs : List ByteArray} (h : linR s = (xs, 0)) : bs (textL (xs.map L)) = s := by
  rcases linR_chain s with ⟨h1, _⟩ | ⟨_, h2⟩
  · rw [h] at h1; exact absurd rfl h1
  · rw [h] at h2
    have := chain_text s xs 0 h2
    rw [List.drop_zero] at this
    rw [← this, bs_L]
end Go.Proofs.YtjeifmjcgemlgaaGreatDoor
/- The words of a string, and the width of a rune. No program stands here. -/
namespace Go.Proofs.YtjeifmjcgemlgaaGreatDoor

theorem get_in (s : ByteArray) (i : Nat) (h : i < s.size) : s.get! i = s[i]'h := by
  simp [ByteArray.get!, getElem!_pos, h]
  rfl
/-- a rune that is not ASCII is made of bytes that are not ASCII -/
theorem decode_bytes (s : ByteArray) (pos : Nat) (h : pos < s.size) (ha : 128 ≤ (s[pos]'h).toNat) :
    1 ≤ (Utf8.decode s pos).2 ∧ ∀ j, j < (Utf8.decode s pos).2 → ∃ hj : pos + j < s.size, 128 ≤ (s[pos + j]'hj).toNat := by
  have h0 : ∃ hj : pos + 0 < s.size, 128 ≤ (s[pos + 0]'hj).toNat := ⟨h, ha⟩
  have hcont : ∀ k, (decide (pos + k < s.size) && (s.get! (pos + k)).toNat / 64 == 2) = true → ∃ hj : pos + k < s.size, 128 ≤ (s[pos + k]'hj).toNat := by
    intro k hk
    rw [Bool.and_eq_true, decide_eq_true_eq, beq_iff_eq] at hk
    refine ⟨hk.1, ?_⟩
    have := hk.2
    rw [get_in s (pos + k) hk.1] at this
    omega
  have key : ∀ n, (∀ j, j < n → ∃ hj : pos + j < s.size, 128 ≤ (s[pos + j]'hj).toNat) → True := fun _ _ => trivial
  unfold Utf8.decode
  dsimp only
  have one : ∀ x : Nat, 1 ≤ (x, 1).2 ∧ ∀ j, j < (x, 1).2 → ∃ hj : pos + j < s.size, 128 ≤ (s[pos + j]'hj).toNat := by
    intro x
    refine ⟨Nat.le_refl _, fun j hj => ?_⟩
    have : j = 0 := by simp only at hj; omega
    subst this; exact h0
  split
  · rename_i hlt
    rw [show pos + 0 = pos from rfl, get_in s pos h] at hlt
    omega
  · split
    · rename_i hc
      rw [Bool.and_eq_true] at hc
      have c1 := hcont 1 hc.2
      split
      · refine ⟨by simp only; omega, fun j hj => ?_⟩
        simp only at hj
        match j, hj with
        | 0, _ => exact h0
        | 1, _ => exact c1
      · exact one _
    · split
      · rename_i hc
        rw [Bool.and_eq_true, Bool.and_eq_true] at hc
        have c1 := hcont 1 hc.1.2
        have c2 := hcont 2 hc.2
        split
        · refine ⟨by simp only; omega, fun j hj => ?_⟩
          simp only at hj
          match j, hj with
          | 0, _ => exact h0
          | 1, _ => exact c1
          | 2, _ => exact c2
        · exact one _
      · split
        · rename_i hc
          rw [Bool.and_eq_true, Bool.and_eq_true, Bool.and_eq_true] at hc
          have c1 := hcont 1 hc.1.1.2
          have c2 := hcont 2 hc.1.2
          have c3 := hcont 3 hc.2
          split
          · refine ⟨by simp only; omega, fun j hj => ?_⟩
            simp only at hj
            match j, hj with
            | 0, _ => exact h0
            | 1, _ => exact c1
            | 2, _ => exact c2
            | 3, _ => exact c3
          · exact one _
        · exact one _

def blank (c : UInt8) : Bool := c == 32 || c == 9
theorem blank_iff {c : UInt8} : blank c = true ↔ c.toNat = 32 ∨ c.toNat = 9 := by
  unfold blank
  rw [Bool.or_eq_true, beq_iff_eq, beq_iff_eq]
  constructor
  · rintro (h | h) <;> subst h
    · exact .inl rfl
    · exact .inr rfl
  · rintro (h | h)
    · exact .inl (UInt8.toNat_inj.1 (show c.toNat = (32 : UInt8).toNat from h))
    · exact .inr (UInt8.toNat_inj.1 (show c.toNat = (9 : UInt8).toNat from h))
/-- the words from position pos on, one begun at st if st is no negative number -/
def flds (s : ByteArray) : List UInt8 → Nat → Int → List ByteArray
  | [], _, st => if 0 ≤ st then [s.extract st.toNat s.size] else []
  | c :: r, pos, st =>
    if blank c then (if 0 ≤ st then s.extract st.toNat pos :: flds s r (pos + 1) (-1) else flds s r (pos + 1) (-1))
    else flds s r (pos + 1) (if st < 0 then pos else st)
def fldS (s : ByteArray) : List ByteArray := flds s (L s) 0 (-1)
theorem flds_word {s : ByteArray} {c : UInt8} {r : List UInt8} {pos : Nat} {st : Int} (h : blank c = true) (h0 : 0 ≤ st) : flds s (c :: r) pos st = s.extract st.toNat pos :: flds s r (pos + 1) (-1) := by
  rw [flds, if_pos h, if_pos h0]
theorem flds_gap {s : ByteArray} {c : UInt8} {r : List UInt8} {pos : Nat} {st : Int} (h : blank c = true) (h0 : st < 0) : flds s (c :: r) pos st = flds s r (pos + 1) (-1) := by
  rw [flds, if_pos h, if_neg (by omega)]
theorem flds_on {s : ByteArray} {c : UInt8} {r : List UInt8} {pos : Nat} {st : Int} (h : blank c = false) : flds s (c :: r) pos st = flds s r (pos + 1) (if st < 0 then pos else st) := by
  rw [flds, h]; rfl
/-- over a run of bytes that are no blanks -/
theorem flds_skip (s : ByteArray) (k : Nat) : ∀ (pos : Nat) (st : Int), 1 ≤ k → (∀ j, j < k → ∃ hj : pos + j < s.size, blank (s[pos + j]'hj) = false) →
    flds s ((L s).drop pos) pos st = flds s ((L s).drop (pos + k)) (pos + k) (if st < 0 then pos else st) := by
  induction k with
  | zero => intro pos st h; omega
  | succ k ih =>
    intro pos st _ hb
    obtain ⟨h0, b0⟩ := hb 0 (by omega)
    rw [L_drop s pos h0, flds_on (c := s[pos]'h0) b0]
    by_cases hk : k = 0
    · subst hk; rfl
    · rw [ih (pos + 1) _ (by omega) (fun j hj => by
        obtain ⟨hj', b⟩ := hb (j + 1) (by omega)
        exact ⟨by omega, by have e : pos + 1 + j = pos + (j + 1) := by omega
                            simp only [e]; exact b⟩)]
      rw [show pos + 1 + k = pos + (k + 1) by omega]
      congr 1
      by_cases hs : st < 0
      · rw [if_pos hs, if_neg (by omega)]
      · rw [if_neg hs, if_neg hs]
end Go.Proofs.YtjeifmjcgemlgaaGreatDoor
/- What Fields of package numtext, and of the reference, computes: the words of a string. -/
namespace Go.Proofs.YtjeifmjcgemlgaaGreatDoor
open Go.RowKit

theorem ret_strs {e : Ending} {v : Value} {w w' : World} {xs : List ByteArray} (h1 : e = .returned v) (h2 : Strs w' v xs) (h3 : Kept w w') : ∃ v, e = .returned v ∧ Strs w' v xs ∧ Kept w w' := ⟨v, h1, h2, h3⟩

end Go.Proofs.YtjeifmjcgemlgaaGreatDoor
/- What the reference's Fields computes. -/
namespace Go.Proofs.YtjeifmjcgemlgaaGreatDoor
open Go.RowKit

end Go.Proofs.YtjeifmjcgemlgaaGreatDoor
/- What guerdonsame.Strings computes: whether two slices of strings read alike. -/
namespace Go.Proofs.YtjeifmjcgemlgaaGreatDoor
open Go.RowKit

theorem neq_str (X Y : ByteArray) : (X.toList == Y.toList) = decide (X = Y) := by
  rw [toList_L, toList_L]
  by_cases h : X = Y
  · rw [h]; simp
  · have : L X ≠ L Y := fun e => h (L_inj.1 e)
    simp [h, this]
end Go.Proofs.YtjeifmjcgemlgaaGreatDoor
/- The exported functions of numtext and of its reference, and the fixed examples of the chapter: awake returns true. -/
namespace Go.Proofs.YtjeifmjcgemlgaaGreatDoor
open Go.RowKit

theorem parseInt_any (s : ByteArray) (hs : s.size ≤ 1000000) (w : World) :
    Calls Tryz.prog 88 #[.string s] w fun e w' => e = .returned (.tuple #[.int .i64 (parP (L s) 0).1, .int .i64 (parP (L s) 0).2]) ∧ Kept w w' := by
  have HP := Lib.hid (fun w => parse_num s 0 hs (by omega) (by omega) w)
  generalize parP (L s) 0 = r at *
  go_enter Tryz.func88, Tryz.ntmps88
  go_wp2_with (go_at_call 106; refine (HP.out _).mono ?_; rintro e w' ⟨rfl, hk⟩)
  go_ret2
  exact ⟨rfl, hk⟩
theorem parseFixed_any (s : ByteArray) (p : Int) (hs : s.size ≤ 1000000) (w : World) :
    Calls Tryz.prog 89 #[.string s, .int .i64 p] w fun e w' => e = .returned (.tuple #[.int .i64 (refP (L s) p).1, .int .i64 (refP (L s) p).2]) ∧ Kept w w' := by
  rw [← parP_refP]
  obtain ⟨q, hq⟩ : ∃ q, max 0 (min p 9) = q := ⟨_, rfl⟩
  have HQ := Lib.hid (fun w => (hq ▸ clamp_any p w : Calls Tryz.prog 84 #[.int .i64 p] w fun e w' => e = .returned (.int .i64 q) ∧ w = w'))
  have HP := Lib.hid (fun w => parse_num s q hs (by omega) (by omega) w)
  rw [hq]
  clear hq
  generalize parP (L s) q = r at *
  go_enter Tryz.func89, Tryz.ntmps89
  go_wp2_with (first
    | (go_at_call 84; refine (HQ.out _).mono ?_; rintro e w' ⟨rfl, rfl⟩)
    | (go_at_call 106; refine (HP.out _).mono ?_; rintro e w' ⟨rfl, hk⟩))
  go_ret2
  exact ⟨rfl, hk⟩
theorem strs_lit2 (w : World) (a b : ByteArray) : Strs (w.alloc (.cells #[.string a, .string b] 9)) (.slice (some ⟨w.heap.size, 0, none⟩) 2 2) [a, b] := by
  refine ⟨_, _, rfl, fun _ => ⟨w.heap.size, 0, rfl, by simp, fun j hj => ?_⟩⟩
  match j, hj with
  | 0, _ => simp
  | 1, _ => simp
theorem ex_lines : linR ⟨#[97, 10, 98, 10]⟩ = ([⟨#[97]⟩, ⟨#[98]⟩], 0) := by rfl
theorem ex_fields : fldS ⟨#[32, 97, 9, 98, 99, 32]⟩ = [⟨#[97]⟩, ⟨#[98, 99]⟩] := by rfl
theorem ex_int : parP (L ⟨#[48, 48, 55]⟩) 0 = (0, 2) := by decide
theorem ex_fix : refP (L ⟨#[45, 48, 46, 48, 53]⟩) 2 = (-5, 0) := by decide
theorem ex_dig : absD (-5) = [53] := by
  rw [absD, Lib.decDigits, dif_pos (by decide)]; rfl
theorem ex_numS : numS (-5) = ⟨#[45, 53]⟩ := by rw [numS_neg (by decide), ex_dig]; rfl
theorem ex_fixS : fixS (-5) (max 0 (min 2 9)) = ⟨#[45, 48, 46, 48, 53]⟩ := by
  rw [fixS, if_neg (by decide), fixT, padD, ex_dig]; rfl

end Go.Proofs.YtjeifmjcgemlgaaGreatDoor
/- A list of enumerations that came in: the members of each. -/
namespace Go.Proofs.YtjeifmjcgemlgaaGreatDoor
open Go.RowKit

/-- the slice value v reads as enumerations with the members ms -/
def Enums (w : World) (v : Value) (ms : List (List ByteArray)) : Prop :=
  ∃ A cap, v = .slice A ms.length cap ∧ ms.length ≤ 9223372036854775807 ∧ (0 < ms.length → ∃ b off, A = some ⟨b, off, none⟩ ∧ b < w.heap.size ∧
    ∀ j l, ms[j]? = some l → l.length ≤ 9223372036854775807 ∧ ∃ mv, w.cell? ⟨b, off + j * 2 + 1, none⟩ = some mv ∧ Strs w mv l)
theorem Enums.kept {w w' : World} {v : Value} {ms : List (List ByteArray)} (h : Enums w v ms) (hk : Kept w w') : Enums w' v ms := by
  obtain ⟨A, cap, hv, hm, hx⟩ := h
  refine ⟨A, cap, hv, hm, fun hp => ?_⟩
  obtain ⟨b, off, hA, hb, hc⟩ := hx hp
  refine ⟨b, off, hA, Nat.lt_of_lt_of_le hb hk.size, fun j l hj => ?_⟩
  obtain ⟨hl, mv, h1, h2⟩ := hc j l hj
  exact ⟨hl, mv, hk.cell (p := ⟨b, off + j * 2 + 1, none⟩) hb h1, h2.kept hk⟩
theorem Enums.nil (w : World) : Enums w (.slice none 0 0) [] := ⟨none, 0, rfl, by decide, fun h => absurd h (by decide)⟩
/-- the members of the enumeration j -/
theorem Enums.at_ {w : World} {v : Value} {ms : List (List ByteArray)} (h : Enums w v ms) {j : Nat} (hj : j < ms.length) :
    ∃ (b off cap n : Nat) (B : Option Addr) (c : Nat) (l : List ByteArray), ms[j]? = some l ∧ l.length = n ∧ n ≤ 9223372036854775807 ∧ v = .slice (some ⟨b, off, none⟩) ms.length cap ∧ b < w.heap.size ∧ w.cell? ⟨b, off + j * 2 + 1, none⟩ = some (.slice B n c) ∧
      (0 < n → ∃ b2 off2, B = some ⟨b2, off2, none⟩ ∧ b2 < w.heap.size ∧ ∀ i, i < n → w.cell? ⟨b2, off2 + i, none⟩ = some (.string (l[i]?.getD ⟨#[]⟩))) := by
  obtain ⟨A, cap, rfl, hm, hx⟩ := h
  obtain ⟨b, off, rfl, hb, hc⟩ := hx (by omega)
  have hg : ms[j]? = some ms[j] := List.getElem?_eq_getElem hj
  obtain ⟨hl, mv, h1, B, c, rfl, h2⟩ := hc j _ hg
  exact ⟨b, off, cap, _, B, c, _, hg, rfl, hl, rfl, hb, h1, h2⟩
end Go.Proofs.YtjeifmjcgemlgaaGreatDoor
/- What package value, and its reference, compute: types and bounds. -/
namespace Go.Proofs.YtjeifmjcgemlgaaGreatDoor
open Go.RowKit

theorem beq_no {a b : Int} (h : a ≠ b) : (a == b) = false := by simpa using h
/-- the ways through a type -/
theorem vt_cases (k e : Int) (ms : List (List ByteArray)) : ((k = 1 ∨ k = 2 ∨ k = 3 ∨ k = 4 ∨ k = 5) ∧ (e = 0 ∧ vtB k e ms = true ∨ (e == 0) = false ∧ vtB k e ms = false)) ∨ (k = 6 ∧ (e < 0 ∧ vtB k e ms = false ∨ ∃ j : Nat, e = j ∧ (decide (j < ms.length) = true ∧ vtB k e ms = true ∨ decide (j < ms.length) = false ∧ vtB k e ms = false))) ∨
    ((k < 1 ∨ 6 < k) ∧ vtB k e ms = false) := by
  by_cases h6 : k = 6
  · subst h6
    refine .inr (.inl ⟨rfl, ?_⟩)
    rw [vtB_six]
    by_cases he : e < 0
    · exact .inl ⟨he, by rw [decide_eq_false (by omega)]; rfl⟩
    · refine .inr ⟨e.toNat, by omega, ?_⟩
      rw [decide_eq_true (show 0 ≤ e by omega), Bool.true_and]
      by_cases hj : e.toNat < ms.length
      · exact .inl ⟨decide_eq_true hj, decide_eq_true (by omega)⟩
      · exact .inr ⟨decide_eq_false hj, decide_eq_false (by omega)⟩
  · rw [vtB_low h6]
    by_cases hk : 1 ≤ k ∧ k ≤ 5
    · refine .inl ⟨by omega, ?_⟩
      rw [decide_eq_true hk.1, decide_eq_true hk.2]
      by_cases he : e = 0
      · exact .inl ⟨he, by simp [he]⟩
      · exact .inr ⟨beq_no he, by simp [he]⟩
    · refine .inr (.inr ⟨by omega, ?_⟩)
      by_cases h1 : 1 ≤ k
      · rw [decide_eq_true h1, decide_eq_false (show ¬ k ≤ 5 by omega)]; rfl
      · rw [decide_eq_false h1]; rfl
set_option maxRecDepth 100000 in
set_option maxHeartbeats 4000000 in
theorem vtype_any (k e : Int) (v : Value) (ms : List (List ByteArray)) (w : World) (hE : Enums w v ms) :
    Calls Tryz.prog 52 #[.agg #[.int .i64 k, .int .i64 e], v] w fun r w' => r = .returned (.bool (vtB k e ms)) ∧ Kept w w' := by
  obtain ⟨A, cap, rfl, hm, _⟩ := hE
  rcases vt_cases k e ms with ⟨hk, ⟨rfl, hv⟩ | ⟨he, hv⟩⟩ | ⟨rfl, ⟨he, hv⟩ | ⟨j, rfl, ⟨hj, hv⟩ | ⟨hj, hv⟩⟩⟩ | ⟨hk, hv⟩
  iterate 2
    · have HV := Lib.hid hv; clear hv
      rcases hk with rfl | rfl | rfl | rfl | rfl
      all_goals
        go_enter Tryz.func52, Tryz.ntmps52
        go_wp2_with fail
        go_ret
        rw [HV.out]
        exact ⟨rfl, (Kept.refl _).alloc _⟩
  iterate 3
    · have HV := Lib.hid hv; clear hv
      go_enter Tryz.func52, Tryz.ntmps52
      go_wp2_with fail
      go_ret
      rw [HV.out]
      first | exact ⟨rfl, (Kept.refl _).alloc _⟩ | exact ⟨ret_bool hj, (Kept.refl _).alloc _⟩
  · have HV := Lib.hid hv; clear hv
    have k1 := beq_no (show k ≠ 1 by omega)
    have k2 := beq_no (show k ≠ 2 by omega)
    have k3 := beq_no (show k ≠ 3 by omega)
    have k4 := beq_no (show k ≠ 4 by omega)
    have k5 := beq_no (show k ≠ 5 by omega)
    have k6 := beq_no (show k ≠ 6 by omega)
    go_enter Tryz.func52, Tryz.ntmps52
    go_wp2_with fail
    go_ret
    rw [HV.out]
    exact ⟨rfl, (Kept.refl _).alloc _⟩
set_option maxRecDepth 100000 in
set_option maxHeartbeats 4000000 in
theorem rvtype_any (k e : Int) (v : Value) (ms : List (List ByteArray)) (w : World) (hE : Enums w v ms) :
    Calls Tryz.prog 67 #[.agg #[.int .i64 k, .int .i64 e], v] w fun r w' => r = .returned (.bool (vtB k e ms)) ∧ Kept w w' := by
  obtain ⟨A, cap, rfl, hm, _⟩ := hE
  rcases vt_cases k e ms with ⟨hk, ⟨rfl, hv⟩ | ⟨he, hv⟩⟩ | ⟨rfl, ⟨he, hv⟩ | ⟨j, rfl, ⟨hj, hv⟩ | ⟨hj, hv⟩⟩⟩ | ⟨hk, hv⟩
  iterate 2
    · have HV := Lib.hid hv; clear hv
      rcases hk with rfl | rfl | rfl | rfl | rfl
      all_goals
        go_enter Tryz.func67, Tryz.ntmps67
        go_wp2_with fail
        go_ret
        rw [HV.out]
        exact ⟨rfl, (Kept.refl _).alloc _⟩
  iterate 3
    · have HV := Lib.hid hv; clear hv
      go_enter Tryz.func67, Tryz.ntmps67
      go_wp2_with fail
      go_ret
      rw [HV.out]
      first | exact ⟨rfl, (Kept.refl _).alloc _⟩ | exact ⟨ret_bool hj, (Kept.refl _).alloc _⟩
  · have HV := Lib.hid hv; clear hv
    have k6 := beq_no (show k ≠ 6 by omega)
    rcases hk with hk | hk
    · have k1 : ¬ 1 ≤ k := by omega
      go_enter Tryz.func67, Tryz.ntmps67
      go_wp2_with fail
      go_ret
      rw [HV.out]
      exact ⟨rfl, (Kept.refl _).alloc _⟩
    · have k1 : 1 ≤ k := by omega
      have k5 : ¬ k ≤ 5 := by omega
      go_enter Tryz.func67, Tryz.ntmps67
      go_wp2_with fail
      go_ret
      rw [HV.out]
      exact ⟨rfl, (Kept.refl _).alloc _⟩
/-- a valid type -/
theorem vt_true {k e : Int} {ms : List (List ByteArray)} (h : vtB k e ms = true) : ((k = 1 ∨ k = 2 ∨ k = 3 ∨ k = 4 ∨ k = 5) ∧ e = 0) ∨ (k = 6 ∧ ∃ j : Nat, e = j ∧ j < ms.length) := by
  rcases vtB_cases h with ⟨he, hk⟩ | ⟨hk, h0, h1⟩
  · exact .inl ⟨hk, he⟩
  · exact .inr ⟨hk, e.toNat, by omega, by omega⟩
end Go.Proofs.YtjeifmjcgemlgaaGreatDoor
/- What package value, and its reference, compute: bounds, valid values. -/
namespace Go.Proofs.YtjeifmjcgemlgaaGreatDoor
open Go.RowKit

set_option maxRecDepth 100000 in
set_option maxHeartbeats 4000000 in
theorem bounds_any (k e : Int) (v : Value) (ms : List (List ByteArray)) (w : World) (hE : Enums w v ms) :
    Calls Tryz.prog 34 #[.agg #[.int .i64 k, .int .i64 e], v] w fun r w' => r = .returned (.tuple #[.int .i64 (bndS k e ms).1, .int .i64 (bndS k e ms).2]) ∧ Kept w w' := by
  have hE1 := fun o => hE.kept ((Kept.refl w).alloc o)
  have hT := Lib.hid (fun w h => vtype_any k e v ms w h)
  cases hv : vtB k e ms
  · have HR := Lib.hid (show bndS k e ms = (0, -1) by rw [bndS, hv]; rfl)
    rw [hv] at hT
    clear hv
    go_enter Tryz.func34, Tryz.ntmps34
    go_wp2_with (go_at_call 52; refine (hT.out _ (hE1 _)).mono ?_; rintro r w1 ⟨rfl, hk⟩)
    go_ret2
    rw [HR.out]
    exact ⟨rfl, ((Kept.refl _).alloc _).trans hk⟩
  · have HR := Lib.hid (show bndS k e ms = bndV k e ms by rw [bndS, hv]; rfl)
    rw [hv] at hT
    have hc := vt_true hv
    clear hv
    rcases hc with ⟨hk, rfl⟩ | ⟨rfl, j, rfl, hj⟩
    · rcases hk with rfl | rfl | rfl | rfl | rfl
      all_goals
        go_enter Tryz.func34, Tryz.ntmps34
        go_wp2_with (go_at_call 52; refine (hT.out _ (hE1 _)).mono ?_; rintro r w1 ⟨rfl, hk⟩; have B := hk.blk1; have c0 := B.cell 0)
        go_ret2
        rw [HR.out]
        exact ⟨rfl, ((Kept.refl _).alloc _).trans hk⟩
    · obtain ⟨b, off, cap, n, B2, c2, l, hl, hn, hn9, rfl, hb, hcl, _⟩ := hE.at_ hj
      have hm := hE
      obtain ⟨_, _, _, hm, _⟩ := hm
      have HV := Lib.hid (show bndV 6 (j : Int) ms = (0, (n : Int) - 1) by
        show (0, ((memS (j : Int) ms).length : Int) - 1) = _
        rw [memS, Int.toNat_natCast, hl, ← hn]; rfl)
      clear hl hn
      go_enter Tryz.func34, Tryz.ntmps34
      go_wp2_with (go_at_call 52; refine (hT.out _ (hE1 _)).mono ?_; rintro r w1 ⟨rfl, hk⟩; have B := hk.blk1; have c0 := B.cell 0)
      have c1 := KW.cell B.lt (B.cell 1)
      have hkl := KW.cell (Nat.lt_of_lt_of_le hb (((Kept.refl w).alloc _).trans hk).size) ((((Kept.refl w).alloc _).trans hk).cell (p := ⟨b, off + j * 2 + 1, none⟩) hb hcl)
      have hji : (j : Int) < ms.length := by omega
      refine wp_region_kept (by kernel_rfl) (by kernel_rfl) ?_
      repeat (go_big_quiet_step (fail))
      refine wpQuiet_nil ?_
      rintro _ ⟨⟨wx, hx2⟩, rfl⟩
      go_wp2_with fail
      go_ret2
      rw [HR.out, HV.out]
      exact ⟨rfl, (((Kept.refl _).alloc _).trans hk).trans hx2⟩

set_option maxRecDepth 100000 in
set_option maxHeartbeats 4000000 in
theorem rbounds_any (k e : Int) (v : Value) (ms : List (List ByteArray)) (w : World) (hE : Enums w v ms) :
    Calls Tryz.prog 108 #[.agg #[.int .i64 k, .int .i64 e], v] w fun r w' => r = .returned (.tuple #[.int .i64 (bndS k e ms).1, .int .i64 (bndS k e ms).2]) ∧ Kept w w' := by
  have hE1 := fun o => hE.kept ((Kept.refl w).alloc o)
  have hT := Lib.hid (fun w h => rvtype_any k e v ms w h)
  cases hv : vtB k e ms
  · have HR := Lib.hid (show bndS k e ms = (0, -1) by rw [bndS, hv]; rfl)
    rw [hv] at hT
    clear hv
    go_enter Tryz.func108, Tryz.ntmps108
    go_wp2_with (go_at_call 67; refine (hT.out _ (hE1 _)).mono ?_; rintro r w1 ⟨rfl, hk⟩)
    go_ret2
    rw [HR.out]
    exact ⟨rfl, ((Kept.refl _).alloc _).trans hk⟩
  · have HR := Lib.hid (show bndS k e ms = bndV k e ms by rw [bndS, hv]; rfl)
    rw [hv] at hT
    have hc := vt_true hv
    clear hv
    rcases hc with ⟨hk, rfl⟩ | ⟨rfl, j, rfl, hj⟩
    · rcases hk with rfl | rfl | rfl | rfl | rfl
      all_goals
        go_enter Tryz.func108, Tryz.ntmps108
        go_wp2_with (go_at_call 67; refine (hT.out _ (hE1 _)).mono ?_; rintro r w1 ⟨rfl, hk⟩; have B := hk.blk1; have c0 := B.cell 0)
        go_ret2
        rw [HR.out]
        exact ⟨rfl, ((Kept.refl _).alloc _).trans hk⟩
    · obtain ⟨b, off, cap, n, B2, c2, l, hl, hn, hn9, rfl, hb, hcl, _⟩ := hE.at_ hj
      have hm := hE
      obtain ⟨_, _, _, hm, _⟩ := hm
      have HV := Lib.hid (show bndV 6 (j : Int) ms = (0, (n : Int) - 1) by
        show (0, ((memS (j : Int) ms).length : Int) - 1) = _
        rw [memS, Int.toNat_natCast, hl, ← hn]; rfl)
      clear hl hn
      go_enter Tryz.func108, Tryz.ntmps108
      go_wp2_with (go_at_call 67; refine (hT.out _ (hE1 _)).mono ?_; rintro r w1 ⟨rfl, hk⟩; have B := hk.blk1; have c0 := B.cell 0)
      have c1 := KW.cell B.lt (B.cell 1)
      have hkl := KW.cell (Nat.lt_of_lt_of_le hb (((Kept.refl w).alloc _).trans hk).size) ((((Kept.refl w).alloc _).trans hk).cell (p := ⟨b, off + j * 2 + 1, none⟩) hb hcl)
      have hji : (j : Int) < ms.length := by omega
      refine wp_region_kept (by kernel_rfl) (by kernel_rfl) ?_
      repeat (go_big_quiet_step (fail))
      refine wpQuiet_nil ?_
      rintro _ ⟨⟨wx, hx2⟩, rfl⟩
      go_wp2_with fail
      go_ret2
      rw [HR.out, HV.out]
      exact ⟨rfl, (((Kept.refl _).alloc _).trans hk).trans hx2⟩

set_option maxRecDepth 100000 in
set_option maxHeartbeats 4000000 in
theorem within_any (n k e : Int) (v : Value) (ms : List (List ByteArray)) (w : World) (hE : Enums w v ms) :
    Calls Tryz.prog 58 #[.int .i64 n, .agg #[.int .i64 k, .int .i64 e], v] w fun r w' => r = .returned (.bool (inB n k e ms)) ∧ Kept w w' := by
  have hE1 := fun o => hE.kept ((Kept.refl w).alloc o)
  have hT := Lib.hid (fun w h => bounds_any k e v ms w h)
  unfold inB
  generalize bndS k e ms = r at *
  obtain ⟨lo, hi⟩ := r
  dsimp only at hT ⊢
  by_cases h1 : lo ≤ n
  · by_cases h2 : n ≤ hi
    · have HR := Lib.hid (show (decide (lo ≤ n) && decide (n ≤ hi)) = true by rw [decide_eq_true h1, decide_eq_true h2]; rfl)
      go_enter Tryz.func58, Tryz.ntmps58
      go_wp2_with (go_at_call 34; refine (hT.out _ (hE1 _)).mono ?_; rintro r w1 ⟨rfl, hk⟩)
      go_ret
      rw [HR.out]
      exact ⟨rfl, ((Kept.refl _).alloc _).trans hk⟩
    · have HR := Lib.hid (show (decide (lo ≤ n) && decide (n ≤ hi)) = false by rw [decide_eq_true h1, decide_eq_false h2]; rfl)
      have h3 := decide_eq_false h2
      go_enter Tryz.func58, Tryz.ntmps58
      go_wp2_with (go_at_call 34; refine (hT.out _ (hE1 _)).mono ?_; rintro r w1 ⟨rfl, hk⟩)
      go_ret
      rw [HR.out]
      exact ⟨rfl, ((Kept.refl _).alloc _).trans hk⟩
  · have HR := Lib.hid (show (decide (lo ≤ n) && decide (n ≤ hi)) = false by rw [decide_eq_false h1]; rfl)
    go_enter Tryz.func58, Tryz.ntmps58
    go_wp2_with (go_at_call 34; refine (hT.out _ (hE1 _)).mono ?_; rintro r w1 ⟨rfl, hk⟩)
    go_ret
    rw [HR.out]
    exact ⟨rfl, ((Kept.refl _).alloc _).trans hk⟩

set_option maxRecDepth 100000 in
set_option maxHeartbeats 4000000 in
theorem rin_any (n k e : Int) (v : Value) (ms : List (List ByteArray)) (w : World) (hE : Enums w v ms) :
    Calls Tryz.prog 92 #[.int .i64 n, .agg #[.int .i64 k, .int .i64 e], v] w fun r w' => r = .returned (.bool (inB n k e ms)) ∧ Kept w w' := by
  have hE1 := fun o => hE.kept ((Kept.refl w).alloc o)
  have hT := Lib.hid (fun w h => rbounds_any k e v ms w h)
  unfold inB
  generalize bndS k e ms = r at *
  obtain ⟨lo, hi⟩ := r
  dsimp only at hT ⊢
  by_cases h1 : lo ≤ n
  · by_cases h2 : n ≤ hi
    · have HR := Lib.hid (show (decide (lo ≤ n) && decide (n ≤ hi)) = true by rw [decide_eq_true h1, decide_eq_true h2]; rfl)
      go_enter Tryz.func92, Tryz.ntmps92
      go_wp2_with (go_at_call 108; refine (hT.out _ (hE1 _)).mono ?_; rintro r w1 ⟨rfl, hk⟩)
      go_ret
      rw [HR.out]
      exact ⟨rfl, ((Kept.refl _).alloc _).trans hk⟩
    · have HR := Lib.hid (show (decide (lo ≤ n) && decide (n ≤ hi)) = false by rw [decide_eq_true h1, decide_eq_false h2]; rfl)
      have h3 := decide_eq_false h2
      go_enter Tryz.func92, Tryz.ntmps92
      go_wp2_with (go_at_call 108; refine (hT.out _ (hE1 _)).mono ?_; rintro r w1 ⟨rfl, hk⟩)
      go_ret
      rw [HR.out]
      exact ⟨rfl, ((Kept.refl _).alloc _).trans hk⟩
  · have HR := Lib.hid (show (decide (lo ≤ n) && decide (n ≤ hi)) = false by rw [decide_eq_false h1]; rfl)
    go_enter Tryz.func92, Tryz.ntmps92
    go_wp2_with (go_at_call 108; refine (hT.out _ (hE1 _)).mono ?_; rintro r w1 ⟨rfl, hk⟩)
    go_ret
    rw [HR.out]
    exact ⟨rfl, ((Kept.refl _).alloc _).trans hk⟩
end Go.Proofs.YtjeifmjcgemlgaaGreatDoor
/- What package value, and its reference, compute: valid values. -/
namespace Go.Proofs.YtjeifmjcgemlgaaGreatDoor
open Go.RowKit

end Go.Proofs.YtjeifmjcgemlgaaGreatDoor
/- Plain laws of typed values: texts are read back, parsed texts are canonical. -/
namespace Go.Proofs.YtjeifmjcgemlgaaGreatDoor

theorem mul_split {x y u v P : Nat} (hu : u < P) (hv : v < P) (h : x * P + u = y * P + v) : x = y ∧ u = v := by
  have hxy : x = y := by
    rcases Nat.lt_trichotomy x y with hl | hl | hl
    · have := Nat.mul_le_mul_right P (show x + 1 ≤ y from hl)
      rw [Nat.succ_mul] at this
      omega
    · exact hl
    · have := Nat.mul_le_mul_right P (show y + 1 ≤ x from hl)
      rw [Nat.succ_mul] at this
      omega
  subst hxy
  exact ⟨rfl, by omega⟩
theorem val_inj : ∀ {a b : List UInt8}, a.all isDig = true → b.all isDig = true → a.length = b.length → val a 0 = val b 0 → a = b
  | [], [], _, _, _, _ => rfl
  | [], _ :: _, _, _, h, _ => by simp at h
  | _ :: _, [], _, _, h, _ => by simp at h
  | c :: r, d :: t, ha, hb, hl, hv => by
    simp only [List.all_cons, Bool.and_eq_true] at ha hb
    simp only [List.length_cons, Nat.add_right_cancel_iff] at hl
    have e1 : val (c :: r) 0 = dval c * 10 ^ r.length + val r 0 := by rw [show val (c :: r) 0 = val r (10 * 0 + dval c) from rfl, val_acc]; simp
    have e2 : val (d :: t) 0 = dval d * 10 ^ r.length + val t 0 := by rw [show val (d :: t) 0 = val t (10 * 0 + dval d) from rfl, val_acc, hl]; simp
    rw [e1, e2] at hv
    obtain ⟨h1, h2⟩ := mul_split (val_lt ha.2) (by rw [hl]; exact val_lt hb.2) hv
    have hcd : c = d := by rw [← of_dval ha.1, ← of_dval hb.1, h1]
    rw [hcd, val_inj ha.2 hb.2 hl h2]
theorem digV_inj {a b : List UInt8} (ha : digB a = true) (hb : digB b = true) (hl : a.length = b.length) (h : digV a = digV b) : a = b := by
  rw [digV_yes ha, digV_yes hb] at h
  exact val_inj ha hb hl (by omega)
theorem dparS_canon {s : ByteArray} {n : Int} (h : dparS s = (n, 0)) : isDate n = true ∧ dateS n = s := by
  cases hB : dparB s
  · rw [dparS_no hB] at h
    simp at h
  · rw [dparS_yes hB] at h
    have hB' := hB
    unfold dparB at hB
    simp only [Bool.and_eq_true, decide_eq_true_eq, beq_iff_eq] at hB
    obtain ⟨hz, h4, h7, d1, d2, d3⟩ := hB
    cases hy : ymdB (digV (L (s.extract 0 4))) (digV (L (s.extract 5 7))) (digV (L (s.extract 8 10)))
    · rw [fromS_no hy] at h
      simp at h
    · rw [fromS_of hy] at h
      obtain ⟨hn, _⟩ := Prod.mk.inj h
      have hb := dayNo_bd hy
      have hd : isDate n = true := isDate_iff.2 (by omega)
      have ht := toS_eq hy hn
      refine ⟨hd, ?_⟩
      have hb2 := toS_bd hd
      have hdl := dimS_le (toS n).1 (toS n).2.1
      obtain ⟨a, ea, la, da, va⟩ := padS_dig (n := (toS n).1) (k := 4) (by omega) (by omega) (by show (toS n).1.toNat < 10000; omega)
      obtain ⟨b, eb, lb, db, vb⟩ := padS_dig (n := (toS n).2.1) (k := 2) (by omega) (by omega) (by show (toS n).2.1.toNat < 100; omega)
      obtain ⟨c, ec, lc, dc, vc⟩ := padS_dig (n := (toS n).2.2) (k := 2) (by omega) (by omega) (by show (toS n).2.2.toNat < 100; omega)
      have e : dateS n = bs (a ++ [45] ++ b ++ [45] ++ c) := by
        rw [dateS_yes hd, ea, eb, ec]
        show bs a ++ bs [45] ++ bs b ++ bs [45] ++ bs c = _
        rw [bs_append, bs_append, bs_append, bs_append]
      rw [ht] at va vb vc
      dsimp only at va vb vc
      have s1 : (L (s.extract 0 4)).length = 4 := by rw [L_length, ext_size _ _ _ (by omega)]
      have s2 : (L (s.extract 5 7)).length = 2 := by rw [L_length, ext_size _ _ _ (by omega)]
      have s3 : (L (s.extract 8 10)).length = 2 := by rw [L_length, ext_size _ _ _ (by omega)]
      have q1 := digV_inj da d1 (by rw [la, s1]; rfl) va
      have q2 := digV_inj db d2 (by rw [lb, s2]; rfl) vb
      have q3 := digV_inj dc d3 (by rw [lc, s3]; rfl) vc
      rw [e, q1, q2, q3, L_extract, L_extract, L_extract, ← L_inj, L_bs]
      have hl : (L s).length = 10 := by rw [L_length]; exact hz
      generalize L s = l at hl h4 h7 ⊢
      match l, hl with
      | [x0, x1, x2, x3, x4, x5, x6, x7, x8, x9], _ =>
        simp only [List.getElem?_cons_zero, List.getElem?_cons_succ, Option.some.injEq] at h4 h7
        subst h4 h7
        rfl

theorem rt_in {n : Int} (h0 : -1000000000000000 ≤ n) (h1 : n ≤ 1000000000000000) : rt n = (n, 0) := by rw [rt, if_neg (by omega)]
theorem inB_iff {n k e : Int} {ms : List (List ByteArray)} (hv : vtB k e ms = true) : inB n k e ms = true ↔ (bndV k e ms).1 ≤ n ∧ n ≤ (bndV k e ms).2 := by
  rw [inB, bndS, if_pos hv]
  simp
theorem last_snoc (l : List UInt8) (c : UInt8) : (l ++ [c]).getLast? = some c ∧ (l ++ [c]).dropLast = l := ⟨by simp, by simp⟩

/-- the text of a valid value is read back: for an enumeration as the first member of the name -/
theorem vnum_text {k e n : Int} {ms : List (List ByteArray)} (hv : vtB k e ms = true) (hi : inB n k e ms = true) :
    (k ≠ 6 → vnumS (vtext k e n ms) k e ms = (n, 0)) ∧ (k = 6 → ∃ i : Nat, (i : Int) ≤ n ∧ vnumS (vtext k e n ms) k e ms = ((i : Int), 0) ∧ (memS e ms)[i]? = some (vtext k e n ms)) := by
  have hb := (inB_iff hv).1 hi
  rcases vtB_cases hv with ⟨he, h⟩ | ⟨rfl, he0, he1⟩
  · rcases h with rfl | rfl | rfl | rfl | rfl
    · refine ⟨fun _ => ?_, fun h => absurd h (by decide)⟩
      obtain ⟨h0, h1⟩ : 0 ≤ n ∧ n ≤ 1 := hb
      obtain rfl | rfl : n = 0 ∨ n = 1 := by omega
      · rfl
      · rfl
    · refine ⟨fun _ => ?_, fun h => absurd h (by decide)⟩
      obtain ⟨h0, h1⟩ : -1000000000000 ≤ n ∧ n ≤ 1000000000000 := hb
      show refI (L (numS n)) = _
      rw [refI_num, rt_in (by omega) (by omega)]
    · refine ⟨fun _ => ?_, fun h => absurd h (by decide)⟩
      obtain ⟨h0, h1⟩ : -1000000000000000 ≤ n ∧ n ≤ 1000000000000000 := hb
      show refP (L (fixS n (max 0 (min 2 9)))) 2 = _
      rw [refP_num, rt_in (by omega) (by omega)]
    · refine ⟨fun _ => ?_, fun h => absurd h (by decide)⟩
      obtain ⟨h0, h1⟩ : -1000000000 ≤ n ∧ n ≤ 1000000000 := hb
      show (if (L (fixS n 4 ++ ⟨#[37]⟩)).getLast? = some 37 then refP (L (fixS n 4 ++ ⟨#[37]⟩)).dropLast 4 else (0, 2)) = _
      rw [L_append, show L ⟨#[37]⟩ = [37] from rfl, (last_snoc _ _).1, (last_snoc _ _).2, if_pos rfl]
      show refP (L (fixS n (max 0 (min 4 9)))) 4 = _
      rw [refP_num, rt_in (by omega) (by omega)]
    · refine ⟨fun _ => ?_, fun h => absurd h (by decide)⟩
      obtain ⟨h0, h1⟩ : 0 ≤ n ∧ n ≤ 109572 := hb
      exact dparS_dateS (isDate_iff.2 ⟨h0, h1⟩)
  · refine ⟨fun h => absurd rfl h, fun _ => ?_⟩
    have h2 : 0 ≤ n ∧ n ≤ ((memS e ms).length : Int) - 1 := hb
    have hg : (memS e ms)[n.toNat]? = some (vtext 6 e n ms) := by
      show _ = some ((memS e ms)[n.toNat]?.getD ⟨#[]⟩)
      rw [List.getElem?_eq_getElem (by omega)]
      rfl
    show ∃ i : Nat, (i : Int) ≤ n ∧ (match findS (vtext 6 e n ms) (memS e ms) 0 with | some i => ((i : Int), (0 : Int)) | none => (0, 6)) = _ ∧ _
    cases hf : findS (vtext 6 e n ms) (memS e ms) 0 with
    | none => exact absurd hg (findS_none hf n.toNat)
    | some j =>
      obtain ⟨_, h4, h5⟩ := findS_some hf
      refine ⟨j, ?_, rfl, by simpa using h4⟩
      rcases Nat.lt_or_ge n.toNat j with hl | hl
      · exact absurd hg (h5 n.toNat (by omega))
      · omega
/-- a text that can be parsed is the text of its value -/
theorem vtext_num {s : ByteArray} {k e n : Int} {ms : List (List ByteArray)} (hv : vtB k e ms = true) (h : vnumS s k e ms = (n, 0)) : vtext k e n ms = s := by
  rcases vtB_cases hv with ⟨he, hk⟩ | ⟨rfl, he0, he1⟩
  · rcases hk with rfl | rfl | rfl | rfl | rfl
    · change (if s = ⟨#[102, 97, 108, 115, 101]⟩ then ((0 : Int), (0 : Int)) else if s = ⟨#[116, 114, 117, 101]⟩ then (1, 0) else (0, 2)) = _ at h
      split at h
      · obtain rfl : 0 = n := congrArg Prod.fst h
        subst s; rfl
      · split at h
        · obtain rfl : 1 = n := congrArg Prod.fst h
          subst s; rfl
        · exact absurd (show (2 : Int) = 0 from congrArg Prod.snd h) (by decide)
    · exact L_inj.1 (refI_canon h)
    · exact refP_canon (p := 2) h
    · change (if (L s).getLast? = some 37 then refP (L s).dropLast 4 else (0, 2)) = _ at h
      split at h
      · rename_i hl
        rw [← L_bs (L s).dropLast] at h
        have h2 : fixS n 4 = bs (L s).dropLast := refP_canon (p := 4) h
        show fixS n 4 ++ ⟨#[37]⟩ = s
        rw [h2, ← L_inj, L_append, L_bs]
        show (L s).dropLast ++ [37] = L s
        have hne : L s ≠ [] := by intro hc; rw [hc] at hl; simp at hl
        have := List.dropLast_concat_getLast hne
        rw [List.getLast?_eq_some_getLast hne] at hl
        rw [Option.some.inj hl] at this
        exact this
      · exact absurd (show (2 : Int) = 0 from congrArg Prod.snd h) (by decide)
    · exact (dparS_canon h).2
  · change (match findS s (memS e ms) 0 with | some i => ((i : Int), (0 : Int)) | none => (0, 6)) = _ at h
    cases hf : findS s (memS e ms) 0 with
    | none => rw [hf] at h; exact absurd (show (6 : Int) = 0 from congrArg Prod.snd h) (by decide)
    | some j =>
      rw [hf] at h
      obtain rfl : (j : Int) = n := congrArg Prod.fst h
      obtain ⟨_, h4, _⟩ := findS_some hf
      show (memS e ms)[(j : Int).toNat]?.getD ⟨#[]⟩ = s
      rw [Int.toNat_natCast, show (memS e ms)[j]? = some s by simpa using h4]
      rfl
end Go.Proofs.YtjeifmjcgemlgaaGreatDoor
