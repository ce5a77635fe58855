/- Plain facts: parsing inverts formatting, and an accepted string is the formatted form of its number. No program stands here. -/
import Derived.Test.YtdnjfpmngnkcfaaGreatDoorParseEq
import Derived.Test.YtdnjfpmngnkcfaaGreatDoorRefFixed
namespace Go.Proofs.YtdnjfpmngnkcfaaGreatDoor

/-- what parsing the text of n answers -/
def rt (n : Int) : Int × Int := if n < -4611686018427387904 ∨ 4611686018427387904 < n then (0, 3) else (n, 0)
theorem absD_val (n : Int) : val (absD n) 0 = n.natAbs := val_decDigits _
theorem absD_dig (n : Int) : (absD n).all isDig = true := decDigits_all _
theorem absD_lead (n : Int) : lead (absD n) = true := decDigits_lead _
theorem absD_ne (n : Int) : absD n ≠ [] := decDigits_ne _
theorem absD_48 {n : Int} (h : n < 0) : absD n ≠ [48] := by
  intro e
  have h1 := absD_val n
  rw [e] at h1
  have h2 : val [48] 0 = 0 := by decide
  omega
theorem signed_abs (n : Int) : signed (decide (n < 0)) n.natAbs = n := by
  unfold signed
  by_cases h : n < 0
  · rw [decide_eq_true h, if_pos rfl]; omega
  · rw [decide_eq_false h, if_neg (by decide)]; omega
theorem lead_bad {l : List UInt8} (hn : l ≠ []) (hl : lead l = true) : badL l l.length = false := by
  have hp := List.length_pos_iff.2 hn
  unfold badL
  rw [Bool.or_eq_false_iff, Bool.and_eq_false_iff, decide_eq_false_iff_not, decide_eq_false_iff_not]
  refine ⟨by omega, ?_⟩
  rcases lead_iff.1 hl with h | h
  · left; omega
  · right
    rw [beq_eq_false_iff_ne]; exact h
theorem numR_abs (n : Int) : numR (absD n) (decide (n < 0)) = rt n := by
  have hv := absD_val n
  unfold numR rt
  by_cases h19 : 19 < (absD n).length
  · have hh : (absD n).head? ≠ some 48 := by
      rcases lead_iff.1 (absD_lead n) with h | h
      · omega
      · exact h
    have hb := val_big (absD_dig n) h19 hh
    rw [hv] at hb
    unfold BB at hb
    rw [if_pos h19, if_pos (by omega)]
  · rw [if_neg h19, hv, signed_abs]
    unfold BB
    by_cases hb : 4611686018427387904 < n.natAbs
    · rw [if_pos hb, if_pos (by omega)]
    · rw [if_neg hb, if_neg (by omega)]
theorem refI_num (n : Int) : refI (L (numS n)) = rt n := by
  unfold refI
  rw [(numS_neg_b n).1, (numS_neg_b n).2, if_neg, numR_abs]
  rintro (h | h | ⟨h1, h2⟩)
  · rw [adB_iff.2 ⟨absD_ne n, absD_dig n⟩] at h; cases h
  · rw [lead_bad (absD_ne n) (absD_lead n)] at h; cases h
  · exact absD_48 (by simpa using h1) h2
theorem all_zeros (j : Nat) : (List.replicate j (48 : UInt8)).all isDig = true := by
  rw [List.all_eq_true]
  intro c hc
  rw [(List.mem_replicate.1 hc).2]; decide
theorem padD_dig (n : Int) (q : Nat) : (padD n q).all isDig = true := by
  unfold padD; rw [List.all_append, all_zeros, absD_dig]; rfl
theorem padD_val (n : Int) (q : Nat) : val (padD n q) 0 = n.natAbs := by
  unfold padD
  rw [show val (List.replicate (q + 1 - (absD n).length) 48 ++ absD n) 0 = val (absD n) 0 from ?_, absD_val]
  generalize q + 1 - (absD n).length = j
  induction j with
  | zero => rfl
  | succ j ih => rw [List.replicate_succ, List.cons_append, val]; exact ih
theorem padD_len (n : Int) (q : Nat) : q + 1 ≤ (padD n q).length := by
  unfold padD; rw [List.length_append, List.length_replicate]; omega
theorem padD_ne (n : Int) (q : Nat) : padD n q ≠ [] := by
  intro e
  have := padD_len n q
  rw [e] at this; simp at this
theorem strip_num {T : List UInt8} {m : Nat} (hd : T.all isDig = true) (hn : T ≠ []) (hv : val T 0 = m) : strip T = Lib.decDigits m := by
  have h := decDigits_val (strip T) (strip_all hd) ((strip_lead T).resolve_left (strip_ne hn)) (strip_ne hn)
  rw [strip_val, hv] at h
  exact h.symm

theorem fixT_parts (n : Int) (q : Nat) : negB (fixT n q) = decide (n < 0) ∧
    bodyL (fixT n q) = (padD n q).take ((padD n q).length - q) ++ ([46] ++ (padD n q).drop ((padD n q).length - q)) := by
  have hlen := padD_len n q
  by_cases h : n < 0
  · have e : fixT n q = 45 :: ((padD n q).take ((padD n q).length - q) ++ ([46] ++ (padD n q).drop ((padD n q).length - q))) := by
      rw [fixT, sgn, if_pos h]; rfl
    rw [e]
    exact ⟨by rw [decide_eq_true h]; rfl, rfl⟩
  · have e : fixT n q = (padD n q).take ((padD n q).length - q) ++ ([46] ++ (padD n q).drop ((padD n q).length - q)) := by
      rw [fixT, sgn, if_neg h]; rfl
    rw [e]
    have hneg : negB ((padD n q).take ((padD n q).length - q) ++ ([46] ++ (padD n q).drop ((padD n q).length - q))) = false := by
      unfold negB
      rw [beq_eq_false_iff_ne]
      intro hh
      have hd := padD_dig n q
      have hne := padD_ne n q
      generalize padD n q = T at *
      match T, hne with
      | c :: r, _ =>
        rw [show (c :: r).length - q = ((c :: r).length - q - 1) + 1 by simp only [List.length_cons] at hlen ⊢; omega, List.take_succ_cons, List.cons_append, List.head?_cons] at hh
        rw [List.all_cons, Bool.and_eq_true] at hd
        have hc : c = 45 := Option.some.inj hh
        rw [hc] at hd
        exact absurd hd.1 (by decide)
    exact ⟨by rw [hneg, decide_eq_false h], by rw [bodyL, hneg]; rfl⟩

theorem refF_num (n q : Int) (q1 : 1 ≤ q) : refF (fixT n q.toNat) q = rt n := by
  have hp := fixT_parts n q.toNat
  have hlen := padD_len n q.toNat
  have hd := padD_dig n q.toNat
  have hne := padD_ne n q.toNat
  have hv := padD_val n q.toNat
  have hT : 1 < (padD n q.toNat).length - q.toNat → padD n q.toNat = absD n := by
    intro h
    unfold padD at h ⊢
    rw [List.length_append, List.length_replicate] at h
    rw [show q.toNat + 1 - (absD n).length = 0 by omega]; rfl
  unfold refF
  rw [hp.1, hp.2]
  generalize padD n q.toNat = T at *
  obtain ⟨k, hk⟩ : ∃ k, k = T.length - q.toNat := ⟨_, rfl⟩
  rw [← hk] at hT ⊢
  have hbl : ((T.take k ++ ([46] ++ T.drop k)).length : Int) - q - 1 = (k : Int) := by
    simp only [List.length_append, List.length_take, List.length_drop, List.length_cons, List.length_nil]
    omega
  have hkn : ((k : Int)).toNat = k := by omega
  rw [hbl, hkn, if_neg (by omega)]
  have htl : (T.take k).length = k := by rw [List.length_take]; omega
  have e1 : (T.take k ++ ([46] ++ T.drop k)).take k = T.take k := by
    rw [List.take_append_of_le_length (by omega), List.take_of_length_le (by omega)]
  have e2 : (T.take k ++ ([46] ++ T.drop k)).drop (k + 1) = T.drop k := by
    rw [List.drop_append, htl, List.drop_of_length_le (by omega), show k + 1 - k = 1 by omega]; rfl
  have e3 : (T.take k ++ ([46] ++ T.drop k))[k]? = some 46 := by
    rw [List.getElem?_append_right (by omega), htl, Nat.sub_self]; rfl
  have d1 : (T.take k).all isDig = true := by
    rw [List.all_eq_true] at *; exact fun x hx => hd x (List.mem_of_mem_take hx)
  have d2 : (T.drop k).all isDig = true := by
    rw [List.all_eq_true] at *; exact fun x hx => hd x (List.mem_of_mem_drop hx)
  have n1 : T.take k ≠ [] := by intro e; rw [e] at htl; simp at htl; omega
  have n2 : T.drop k ≠ [] := by
    intro e
    have := congrArg List.length e
    rw [List.length_drop] at this; simp at this; omega
  have hbad : badL (T.take k ++ ([46] ++ T.drop k)) (k : Int) = false := by
    unfold badL
    rw [Bool.or_eq_false_iff, Bool.and_eq_false_iff, decide_eq_false_iff_not, decide_eq_false_iff_not]
    refine ⟨by omega, ?_⟩
    by_cases h1 : 1 < k
    · right
      rw [beq_eq_false_iff_ne]
      intro e
      have hk0 : ¬ k = 0 := by omega
      rw [List.head?_append, List.head?_take, if_neg hk0, hT h1] at e
      have hl1 : 1 < (absD n).length := by
        rw [← hT h1]; omega
      cases hq : (absD n).head? with
      | none => exact absurd (List.head?_eq_none_iff.1 hq) (absD_ne n)
      | some c =>
        rw [hq] at e
        have hc : c = 48 := Option.some.inj e
        rcases lead_iff.1 (absD_lead n) with h | h
        · omega
        · exact h (by rw [hq, hc])
    · left; omega
  have hok : okF (T.take k ++ ([46] ++ T.drop k)) k = true := by
    unfold okF
    rw [e1, e2, e3, adB_iff.2 ⟨n1, d1⟩, adB_iff.2 ⟨n2, d2⟩, hbad]; rfl
  rw [if_pos hok, e1, e2, List.take_append_drop]
  have hs : strip T = absD n := strip_num hd hne hv
  unfold finF
  rw [hs, if_neg (fun h => absD_48 (by simpa using h.1) h.2), numR_abs]
theorem refP_num (n p : Int) : refP (L (fixS n (max 0 (min p 9)))) p = rt n := by
  have e : max 0 (min p 9) = min (max p 0) 9 := by omega
  rw [e]
  unfold refP fixS
  by_cases h : min (max p 0) 9 = 0
  · rw [if_pos h, if_pos h]; exact refI_num n
  · rw [if_neg h, if_neg h, L_bs]; exact refF_num n _ (by omega)
end Go.Proofs.YtdnjfpmngnkcfaaGreatDoor
