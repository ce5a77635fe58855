/- Plain facts: a string that the parser accepts is the formatted form of its number; lines concatenate to the text. No program stands here. -/
import Derived.Test.YtdnjfpmngnkcfaaGreatDoorRoundMath
import Derived.Test.YtdnjfpmngnkcfaaGreatDoorLines
namespace Go.Proofs.YtdnjfpmngnkcfaaGreatDoor

theorem body_sgn (l : List UInt8) : l = (if negB l then [45] else []) ++ bodyL l := by
  cases h : negB l
  · rw [bodyL, h]; rfl
  · rw [bodyL, h]
    unfold negB at h
    rw [beq_iff_eq] at h
    match l, h with
    | c :: r, h =>
      rw [show c = 45 from Option.some.inj h]; rfl
theorem no_code {a c v : Int} (hc : c ≠ 0) (h : (a, c) = (v, 0)) : False := hc (congrArg Prod.snd h)
theorem numR_ok {l : List UInt8} {neg : Bool} {v : Int} (h : numR l neg = (v, 0)) : v = signed neg (val l 0) := by
  unfold numR at h
  split at h
  · exact (no_code (by decide) h).elim
  · split at h
    · exact (no_code (by decide) h).elim
    · exact (congrArg Prod.fst h).symm
theorem absD_signed (neg : Bool) (m : Nat) : absD (signed neg m) = Lib.decDigits m := by
  unfold absD signed
  cases neg <;> simp
theorem sgn_signed (neg : Bool) (m : Nat) (h : neg = true → m ≠ 0) : sgn (signed neg m) = if neg then [45] else [] := by
  unfold sgn signed
  cases neg
  · simp
  · have := h rfl
    rw [if_pos (by simp; omega)]; rfl
theorem numS_parts (n : Int) : L (numS n) = sgn n ++ absD n := by
  by_cases h : n < 0
  · rw [numS_neg h, sgn, if_pos h]; rfl
  · rw [numS_pos h, sgn, if_neg h]; rfl
theorem refI_canon {l : List UInt8} {v : Int} (h : refI l = (v, 0)) : L (numS v) = l := by
  unfold refI at h
  split at h
  · exact (no_code (by decide) h).elim
  · rename_i hc
    have hv := numR_ok h
    have ha : adB (bodyL l) = true := by
      cases ha : adB (bodyL l)
      · exact absurd (.inl ha) hc
      · rfl
    have hb : badL (bodyL l) (bodyL l).length = false := by
      cases hb : badL (bodyL l) (bodyL l).length
      · rfl
      · exact absurd (.inr (.inl hb)) hc
    obtain ⟨hn, hd⟩ := adB_iff.1 ha
    have hl := badL_lead hn hb
    have hz : negB l = true → val (bodyL l) 0 ≠ 0 := fun h1 h2 => hc (.inr (.inr ⟨h1, val_zero_lead hd hl hn h2⟩))
    rw [numS_parts, hv, sgn_signed _ _ hz, absD_signed, decDigits_val _ hd hl hn]
    exact (body_sgn l).symm
theorem strip_zeros (T : List UInt8) : T = List.replicate (T.length - (strip T).length) 48 ++ strip T := by
  induction T with
  | nil => rfl
  | cons c r ih =>
    cases r with
    | nil => simp [strip]
    | cons d r =>
      rw [strip]
      split
      · rename_i hc
        have hle : (strip (d :: r)).length ≤ (d :: r).length := by
          have := congrArg List.length ih
          rw [List.length_append, List.length_replicate] at this
          omega
        rw [show (c :: d :: r).length - (strip (d :: r)).length = ((d :: r).length - (strip (d :: r)).length) + 1 by rw [List.length_cons]; omega, List.replicate_succ, List.cons_append, ← ih, hc]
      · simp
theorem refF_canon {l : List UInt8} {q v : Int} (q1 : 1 ≤ q) (h : refF l q = (v, 0)) : fixT v q.toNat = l := by
  unfold refF at h
  split at h
  · exact (no_code (by decide) h).elim
  · rename_i hk
    split at h
    · rename_i hok
      obtain ⟨k, hK⟩ : ∃ k : Nat, (((bodyL l).length : Int) - q - 1) = (k : Int) := ⟨(((bodyL l).length : Int) - q - 1).toNat, by omega⟩
      have hkn : ((k : Int)).toNat = k := by omega
      rw [hK] at hk hok h
      rw [hkn] at hok h
      have hbody := body_sgn l
      generalize bodyL l = b at *
      have hkl : k < b.length := by omega
      have hb : b = b.take k ++ b[k] :: b.drop (k + 1) := by
        rw [← List.drop_eq_getElem_cons hkl, List.take_append_drop]
      unfold okF at hok
      rw [Bool.and_eq_true, Bool.and_eq_true, Bool.and_eq_true, List.getElem?_eq_getElem hkl] at hok
      obtain ⟨h46, ha1, ha2, hbad⟩ := hok
      have hc46 : b[k] = 46 := by simpa using h46
      obtain ⟨n1, d1⟩ := adB_iff.1 ha1
      obtain ⟨n2, d2⟩ := adB_iff.1 ha2
      have htl : (b.take k).length = k := by rw [List.length_take]; omega
      have hdl : (b.drop (k + 1)).length = q.toNat := by rw [List.length_drop]; omega
      have hhead : 1 < k → (b.take k).head? ≠ some 48 := by
        intro h1 e
        rw [List.head?_take, if_neg (by omega)] at e
        unfold badL at hbad
        rw [e] at hbad
        simp at hbad
        omega
      rw [hc46] at hb
      generalize b.take k = A at *
      generalize b.drop (k + 1) = C at *
      have hTd : (A ++ C).all isDig = true := by rw [List.all_append, d1, d2]; rfl
      have hTn : A ++ C ≠ [] := by simp [n1]
      have hTl : (A ++ C).length = k + q.toNat := by rw [List.length_append, htl, hdl]
      unfold finF at h
      split at h
      · exact (no_code (by decide) h).elim
      · rename_i hz0
        have hv := numR_ok h
        have s1 := strip_all hTd
        have s2 := strip_ne hTn
        have s3 := (strip_lead (A ++ C)).resolve_left s2
        have hz : negB l = true → val (strip (A ++ C)) 0 ≠ 0 := fun h1 h2 => hz0 ⟨h1, val_zero_lead s1 s3 s2 h2⟩
        have hab : absD v = strip (A ++ C) := by rw [hv, absD_signed, decDigits_val _ s1 s3 s2]
        have hpad : padD v q.toNat = A ++ C := by
          unfold padD
          rw [hab]
          by_cases h1 : 1 < k
          · have hst : strip (A ++ C) = A ++ C := by
              refine strip_head ?_
              rw [List.head?_append]
              cases hq : A.head? with
              | none => exact absurd (List.head?_eq_none_iff.1 hq) n1
              | some c => intro e; exact hhead h1 (by rw [hq]; exact e)
            rw [hst, hTl, show q.toNat + 1 - (k + q.toNat) = 0 by omega]; rfl
          · have := strip_zeros (A ++ C)
            rw [hTl, show k + q.toNat = q.toNat + 1 by omega] at this
            exact this.symm
        have hd2 : A.length = k := htl
        rw [fixT, hpad, hTl, hv, sgn_signed _ _ hz, Nat.add_sub_cancel, List.take_append_of_le_length (by omega), List.take_of_length_le (by omega), List.drop_append_of_le_length (by omega), List.drop_of_length_le (by omega)]
        conv => rhs; rw [hbody, hb]
        simp
    · exact (no_code (by decide) h).elim
theorem refP_canon {s : ByteArray} {p v : Int} (h : refP (L s) p = (v, 0)) : fixS v (max 0 (min p 9)) = s := by
  have e : max 0 (min p 9) = min (max p 0) 9 := by omega
  rw [e]
  unfold refP at h
  unfold fixS
  by_cases hq : min (max p 0) 9 = 0
  · rw [if_pos hq] at h ⊢
    exact L_inj.1 (refI_canon h)
  · rw [if_neg hq] at h ⊢
    rw [← L_inj, L_bs]
    exact refF_canon (by omega) h

/-- the lines, one behind the other from st on, end at e -/
def Chain (s : ByteArray) : Nat → List ByteArray → Nat → Prop
  | st, [], e => e = st
  | st, x :: xs, e => ∃ (m : Nat) (h : m < s.size), st ≤ m ∧ x = s.extract st m ∧ (s[m]'h).toNat = 10 ∧ Chain s (m + 1) xs e
theorem lns_chain (s : ByteArray) (n : Nat) : ∀ (pos st : Nat) (x : List ByteArray × Nat), pos + n = s.size → st ≤ pos → lns s ((L s).drop pos) pos st = some x → Chain s st x.1 x.2 := by
  induction n with
  | zero =>
    intro pos st x hp hst h
    rw [List.drop_of_length_le (by rw [L_length]; omega), lns_end] at h
    cases h
    rfl
  | succ n ih =>
    intro pos st x hp hst h
    have hlt : pos < s.size := by omega
    rw [L_drop s pos hlt] at h
    by_cases h10 : (s[pos]'hlt).toNat = 10
    · rw [lns_line _ h10] at h
      obtain ⟨y, hy, rfl⟩ := Option.map_eq_some_iff.1 h
      exact ⟨pos, hlt, hst, rfl, h10, ih (pos + 1) (pos + 1) y (by omega) (Nat.le_refl _) hy⟩
    · by_cases hok : (s[pos]'hlt).toNat = 9 ∨ (32 ≤ (s[pos]'hlt).toNat ∧ (s[pos]'hlt).toNat ≤ 126)
      · rw [lns_ok _ h10 hok] at h
        exact ih (pos + 1) st x (by omega) (by omega) h
      · rw [lns_bad _ h10 hok] at h; cases h
/-- what the lines of a text say of it -/
theorem linR_chain (s : ByteArray) : ((linR s).2 ≠ 0 ∧ (linR s).1 = []) ∨ ((linR s).2 = 0 ∧ Chain s 0 (linR s).1 s.size) := by
  unfold linR
  split
  · exact .inl ⟨by decide, rfl⟩
  · cases h : lns s (L s) 0 0 with
    | none => exact .inl ⟨by show (2 : Int) ≠ 0; decide, rfl⟩
    | some x =>
      obtain ⟨l, e⟩ := x
      dsimp only
      split
      · rename_i he
        refine .inr ⟨rfl, ?_⟩
        have := lns_chain s s.size 0 0 (l, e) (by omega) (Nat.le_refl _) (by rw [List.drop_zero]; exact h)
        rw [← he]; exact this
      · exact .inl ⟨by decide, rfl⟩
end Go.Proofs.YtdnjfpmngnkcfaaGreatDoor
