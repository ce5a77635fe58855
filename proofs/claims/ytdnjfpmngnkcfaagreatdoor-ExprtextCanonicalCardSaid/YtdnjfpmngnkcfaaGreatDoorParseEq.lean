/- The parser and the reference's parser answer alike. No program stands here. -/
import Derived.Test.YtdnjfpmngnkcfaaGreatDoorRefParseC
namespace Go.Proofs.YtdnjfpmngnkcfaaGreatDoor

theorem adB_iff {l : List UInt8} : adB l = true ↔ l ≠ [] ∧ l.all isDig = true := by
  unfold adB digB
  rw [Bool.and_eq_true, decide_eq_true_eq, List.length_pos_iff]
theorem val_big {l : List UInt8} (hd : l.all isDig = true) (hl : 19 < l.length) (hh : l.head? ≠ some 48) : BB < val l 0 := by
  have h1 := val_pos hd hh (by intro e; rw [e] at hl; simp at hl)
  have h2 : 10 ^ 19 ≤ 10 ^ (l.length - 1) := Nat.pow_le_pow_right (by decide) (by omega)
  unfold BB
  omega
theorem finR_true (neg : Bool) (v : Nat) : finR neg (some (v, true)) = (0, 3) := by simp [finR]
theorem finR_false {neg : Bool} {v : Nat} (h : ¬ (neg = true ∧ v = 0)) : finR neg (some (v, false)) = (signed neg v, 0) := by
  show (if neg = true ∧ v = 0 ∧ false = false then _ else _) = _
  rw [if_neg (fun h' => h ⟨h'.1, h'.2.1⟩)]; rfl
/-- the loop's answer for digits, as the reference gives it -/
theorem fin_num {l : List UInt8} (neg : Bool) (h19 : 19 < l.length → BB < val l 0) (hz : ¬ (neg = true ∧ val l 0 = 0)) :
    finR neg (some (acc l 0 false)) = numR l neg := by
  have h := acc_zero l
  have hn : numR l neg = if BB < val l 0 then (0, 3) else (signed neg (val l 0), 0) := by
    unfold numR
    by_cases h' : 19 < l.length
    · rw [if_pos h', if_pos (h19 h')]
    · rw [if_neg h']
  rw [hn]
  generalize acc l 0 false = t at *
  obtain ⟨v, g⟩ := t
  dsimp only at h
  rcases h with ⟨rfl, rfl, h3⟩ | ⟨rfl, h2⟩
  · rw [if_neg (by omega)]
    exact finR_false hz
  · rw [if_pos h2]
    exact finR_true _ _
theorem fin_zero {l : List UInt8} (h : val l 0 = 0) : finR true (some (acc l 0 false)) = (0, 2) := by
  have h' := acc_zero l
  rw [h] at h'
  generalize acc l 0 false = t at *
  obtain ⟨v, g⟩ := t
  dsimp only at h'
  rcases h' with ⟨rfl, rfl, h3⟩ | ⟨rfl, h2⟩
  · rfl
  · unfold BB at h2; omega
theorem val_zero_lead {l : List UInt8} (hd : l.all isDig = true) (hl : lead l = true) (hn : l ≠ []) (h : val l 0 = 0) : l = [48] := by
  have := decDigits_val l hd hl hn
  rw [h] at this
  rw [← this, Lib.decDigits, dif_pos (by decide)]; rfl
theorem badL_lead {l : List UInt8} (hn : l ≠ []) (h : badL l l.length = false) : lead l = true := by
  have hp := List.length_pos_iff.2 hn
  rw [lead_iff]
  unfold badL at h
  rw [Bool.or_eq_false_iff, Bool.and_eq_false_iff] at h
  rcases h.2 with h2 | h2
  · left
    have : ¬ (1 < (l.length : Int)) := by simpa using h2
    omega
  · right
    intro e
    rw [e] at h2
    exact absurd h2 (by decide)

theorem parP_refI (l : List UInt8) : parP l 0 = refI l := by
  unfold parP refI bodyP
  generalize bodyL l = b
  generalize negB l = neg
  have hw : wholeI b 0 = b.length := by rw [wholeI, if_neg (by omega)]
  rw [hw, run_all b _ 0 false (.inr (Int.le_refl _))]
  cases hb : badL b b.length
  · rw [if_neg (by simp)]
    cases hd : b.all isDig
    · rw [if_neg (by decide), if_pos (.inl (by unfold adB digB; rw [hd]; simp))]; rfl
    · have hne : b ≠ [] := by
        intro e
        rw [e] at hb
        exact absurd hb (by decide)
      have hle := badL_lead hne hb
      have had : adB b = true := adB_iff.2 ⟨hne, hd⟩
      rw [if_pos rfl]
      by_cases hz : neg = true ∧ val b 0 = 0
      · obtain ⟨rfl, hz⟩ := hz
        have e := val_zero_lead hd hle hne hz
        rw [fin_zero hz, if_pos (.inr (.inr ⟨rfl, e⟩))]
      · rw [if_neg (by
          rintro (h | h | ⟨h1, h2⟩)
          · rw [had] at h; cases h
          · cases h
          · exact hz ⟨h1, by rw [h2]; decide⟩)]
        refine fin_num neg (fun h19 => val_big hd h19 ?_) hz
        rcases lead_iff.1 hle with h | h
        · omega
        · exact h
  · rw [if_pos rfl, if_pos (.inr (.inl rfl))]

theorem strip_val (l : List UInt8) : val (strip l) 0 = val l 0 := by
  induction l with
  | nil => rfl
  | cons c r ih =>
    cases r with
    | nil => rfl
    | cons d r =>
      rw [strip]
      split
      · rename_i h
        rw [ih, h]; rfl
      · rfl
theorem strip_all {l : List UInt8} (h : l.all isDig = true) : (strip l).all isDig = true := by
  induction l with
  | nil => exact h
  | cons c r ih =>
    cases r with
    | nil => exact h
    | cons d r =>
      rw [strip]
      split
      · exact ih (by rw [List.all_cons, Bool.and_eq_true] at h; exact h.2)
      · exact h
theorem strip_ne {l : List UInt8} (h : l ≠ []) : strip l ≠ [] := by
  induction l with
  | nil => exact absurd rfl h
  | cons c r ih =>
    cases r with
    | nil => exact h
    | cons d r =>
      rw [strip]
      split
      · exact ih (by simp)
      · exact h
theorem strip_lead (l : List UInt8) : strip l = [] ∨ lead (strip l) = true := by
  induction l with
  | nil => exact .inl rfl
  | cons c r ih =>
    cases r with
    | nil => exact .inr rfl
    | cons d r =>
      rw [strip]
      split
      · exact ih
      · rename_i h
        exact .inr (lead_iff.2 (.inr (by simpa using h)))
theorem finR_acc {a b : List UInt8} (h : val a 0 = val b 0) (neg : Bool) : finR neg (some (acc a 0 false)) = finR neg (some (acc b 0 false)) := by
  have h1 := acc_zero a
  have h2 := acc_zero b
  rw [h] at h1
  generalize acc a 0 false = t at *
  generalize acc b 0 false = u at *
  obtain ⟨v, g⟩ := t
  obtain ⟨v', g'⟩ := u
  dsimp only at h1 h2
  rcases h1 with ⟨rfl, rfl, h3⟩ | ⟨rfl, h3⟩ <;> rcases h2 with ⟨rfl, rfl, h4⟩ | ⟨rfl, h4⟩
  · rfl
  · omega
  · omega
  · rw [finR_true, finR_true]
theorem parP_refF (l : List UInt8) (q : Int) (q1 : 1 ≤ q) : parP l q = refF l q := by
  unfold parP refF bodyP
  generalize bodyL l = b
  generalize negB l = neg
  have hw : wholeI b q = (b.length : Int) - q - 1 := by rw [wholeI, if_pos (by omega)]; omega
  rw [hw]
  by_cases hk : (b.length : Int) - q - 1 < 1
  · rw [if_pos hk, if_pos (by unfold badL; simp [hk])]
  · rw [if_neg hk]
    obtain ⟨k, hK⟩ : ∃ k : Nat, (b.length : Int) - q - 1 = (k : Int) := ⟨((b.length : Int) - q - 1).toNat, by omega⟩
    have hkl : k < b.length := by omega
    have hkn : ((k : Int)).toNat = k := by omega
    rw [hK, hkn]
    have hb : b = b.take k ++ b[k] :: b.drop (k + 1) := by
      rw [← List.drop_eq_getElem_cons hkl, List.take_append_drop]
    have hlen : (b.take k).length = k := by rw [List.length_take]; omega
    have hrun : run b (k : Int) 0 false = if (b.take k).all isDig && (b[k] == 46 && (b.drop (k + 1)).all isDig) then some (acc (b.take k ++ b.drop (k + 1)) 0 false) else none := by
      have := run_at (b.take k) b[k] (b.drop (k + 1)) 0 false
      rw [hlen, ← hb] at this
      exact this
    have hg : (b[k]? == some 46) = (b[k] == 46) := by rw [List.getElem?_eq_getElem hkl]; rfl
    have hne1 : b.take k ≠ [] := by
      intro e; rw [e] at hlen; simp at hlen; omega
    have hne2 : b.drop (k + 1) ≠ [] := by
      intro e
      have := congrArg List.length e
      rw [List.length_drop] at this; simp at this; omega
    have had : ∀ x : List UInt8, x ≠ [] → adB x = x.all isDig := by
      intro x hx
      unfold adB digB
      rw [decide_eq_true (List.length_pos_iff.2 hx)]; rfl
    have hok : okF b k = (((b.take k).all isDig && (b[k] == 46 && (b.drop (k + 1)).all isDig)) && !(badL b k)) := by
      unfold okF
      rw [hg, had _ hne1, had _ hne2]
      cases (b[k] == 46) <;> cases (b.take k).all isDig <;> cases (b.drop (k + 1)).all isDig <;> simp
    rw [hok, hrun]
    cases hbad : badL b k
    · rw [if_neg (by decide)]
      cases hgood : ((b.take k).all isDig && (b[k] == 46 && (b.drop (k + 1)).all isDig))
      · simp [finR]
      · simp only [Bool.not_false, Bool.and_true, if_true]
        rw [Bool.and_eq_true, Bool.and_eq_true] at hgood
        obtain ⟨d1, _, d2⟩ := hgood
        have hT : (b.take k ++ b.drop (k + 1)).all isDig = true := by rw [List.all_append, d1, d2]; rfl
        have hTn : b.take k ++ b.drop (k + 1) ≠ [] := by simp [hne1]
        generalize b.take k ++ b.drop (k + 1) = T at *
        rw [finR_acc (strip_val T).symm]
        have s1 := strip_all hT
        have s2 := strip_ne hTn
        have s3 : lead (strip T) = true := (strip_lead T).resolve_left s2
        unfold finF
        generalize strip T = S at *
        by_cases hz : neg = true ∧ val S 0 = 0
        · obtain ⟨rfl, hz⟩ := hz
          rw [fin_zero hz, if_pos ⟨rfl, val_zero_lead s1 s3 s2 hz⟩]
        · rw [if_neg (fun h => hz ⟨h.1, by rw [h.2]; decide⟩)]
          refine fin_num neg (fun h19 => val_big s1 h19 ?_) hz
          rcases lead_iff.1 s3 with h | h
          · omega
          · exact h
    · simp
/-- both parsers, for any number of places -/
theorem parP_refP (l : List UInt8) (p : Int) : parP l (max 0 (min p 9)) = refP l p := by
  have e : max 0 (min p 9) = min (max p 0) 9 := by omega
  rw [e, refP]
  by_cases h : min (max p 0) 9 = 0
  · rw [if_pos h, h]; exact parP_refI l
  · rw [if_neg h]; exact parP_refF l _ (by omega)
end Go.Proofs.YtdnjfpmngnkcfaaGreatDoor
