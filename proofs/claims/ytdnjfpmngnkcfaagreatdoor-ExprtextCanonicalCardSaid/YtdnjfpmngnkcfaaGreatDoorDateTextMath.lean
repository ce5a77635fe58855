/- Plain facts: the text of a date is read back, and the next date. No program stands here. -/
import Derived.Test.YtdnjfpmngnkcfaaGreatDoorDateF
namespace Go.Proofs.YtdnjfpmngnkcfaaGreatDoor

theorem val_zeros (j : Nat) (r : List UInt8) : val (List.replicate j 48 ++ r) 0 = val r 0 := by
  induction j with
  | zero => rfl
  | succ j ih => rw [List.replicate_succ, List.cons_append, val]; exact ih
/-- a padded number has its k digits -/
theorem padS_dig {n k : Int} (h0 : 0 ≤ n) (k0 : 1 ≤ k) (h1 : n.toNat < 10 ^ k.toNat) : ∃ l : List UInt8, padS n k = bs l ∧ l.length = k.toNat ∧ digB l = true ∧ digV l = n := by
  have hi : Lib.itoa n = Lib.decDigits n.toNat := by rw [Lib.itoa, if_neg (by omega)]
  have hs : (numS n).size = (Lib.decDigits n.toNat).length := by rw [numS, bs_size, hi]
  have hd := decDigits_all n.toNat
  have hlen : (Lib.decDigits n.toNat).length ≤ k.toNat := by
    by_cases h10 : 10 ≤ n.toNat
    · have := val_pos hd (decDigits_head _ h10) (decDigits_ne _)
      rw [val_decDigits] at this
      rcases Nat.lt_or_ge k.toNat (Lib.decDigits n.toNat).length with hl | hl
      · exfalso
        have h2 : 10 ^ k.toNat ≤ 10 ^ ((Lib.decDigits n.toNat).length - 1) := Nat.pow_le_pow_right (by decide) (by omega)
        omega
      · exact hl
    · rw [Lib.decDigits, dif_pos (by omega)]; simp; omega
  have hall : digB (List.replicate (k.toNat - (numS n).size) 48 ++ Lib.decDigits n.toNat) = true := by
    unfold digB
    rw [List.all_append, hd, Bool.and_true, List.all_eq_true]
    intro c hc
    rw [(List.mem_replicate.1 hc).2]; decide
  refine ⟨List.replicate (k.toNat - (numS n).size) 48 ++ Lib.decDigits n.toNat, by rw [padS, hi], ?_, hall, ?_⟩
  · rw [List.length_append, List.length_replicate, hs]; omega
  · rw [digV_yes hall, val_zeros, val_decDigits]; omega

theorem dparS_dateS {n : Int} (h : isDate n = true) : dparS (dateS n) = (n, 0) := by
  have hb := toS_bd h
  have h' := isDate_iff.1 h
  have hs := toS_spec n h'.1 h'.2
  have hdl := dimS_le (toS n).1 (toS n).2.1
  obtain ⟨a, ea, la, da, va⟩ := padS_dig (n := (toS n).1) (k := 4) (by omega) (by omega) (by show (toS n).1.toNat < 10000; omega)
  obtain ⟨b, eb, lb, db, vb⟩ := padS_dig (n := (toS n).2.1) (k := 2) (by omega) (by omega) (by show (toS n).2.1.toNat < 100; omega)
  obtain ⟨c, ec, lc, dc, vc⟩ := padS_dig (n := (toS n).2.2) (k := 2) (by omega) (by omega) (by show (toS n).2.2.toNat < 100; omega)
  have e : dateS n = bs (a ++ [45] ++ b ++ [45] ++ c) := by
    rw [dateS_yes h, ea, eb, ec]
    show bs a ++ bs [45] ++ bs b ++ bs [45] ++ bs c = _
    rw [bs_append, bs_append, bs_append, bs_append]
  match a, la, b, lb, c, lc with
  | [a0, a1, a2, a3], _, [b0, b1], _, [c0, c1], _ =>
    have x1 : L ((dateS n).extract 0 4) = [a0, a1, a2, a3] := by rw [e, L_extract, L_bs]; rfl
    have x2 : L ((dateS n).extract 5 7) = [b0, b1] := by rw [e, L_extract, L_bs]; rfl
    have x3 : L ((dateS n).extract 8 10) = [c0, c1] := by rw [e, L_extract, L_bs]; rfl
    have hB : dparB (dateS n) = true := by
      unfold dparB
      rw [x1, x2, x3, da, db, dc, e, L_bs, bs_size]
      rfl
    rw [dparS_yes hB, x1, x2, x3, va, vb, vc, fromS_of hs.1, hs.2]

/-- the next date: the next day of the month, or the first of the next month, or New Year -/
theorem toS_next {n : Int} (h : isDate n = true) (h1 : n ≠ 109572) :
    ((toS n).2.2 < dimS (toS n).1 (toS n).2.1 ∧ toS (n + 1) = ((toS n).1, (toS n).2.1, (toS n).2.2 + 1)) ∨
    ((toS n).2.2 = dimS (toS n).1 (toS n).2.1 ∧ (toS n).2.1 < 12 ∧ toS (n + 1) = ((toS n).1, (toS n).2.1 + 1, 1)) ∨
    ((toS n).2.2 = dimS (toS n).1 (toS n).2.1 ∧ (toS n).2.1 = 12 ∧ toS (n + 1) = ((toS n).1 + 1, 1, 1)) := by
  have hb := toS_bd h
  have h' := isDate_iff.1 h
  have hs := toS_spec n h'.1 h'.2
  generalize toS n = t at *
  obtain ⟨y, m, d⟩ := t
  dsimp only at *
  obtain ⟨b1, b2, b3, b4, b5, b6⟩ := hb
  have hno := hs.2
  unfold dayNo at hno
  by_cases hd : d < dimS y m
  · exact .inl ⟨hd, toS_eq (ymdB_iff.2 ⟨b1, b2, b3, b4, by omega, by omega⟩) (by unfold dayNo; omega)⟩
  · have hd' : d = dimS y m := by omega
    have hk : cumM y ((m - 1).toNat + 1) = cumM y (m - 1).toNat + dimS y m := by
      rw [cumM, show (((m - 1).toNat : Nat) : Int) + 1 = m by omega]
    by_cases hm : m < 12
    · refine .inr (.inl ⟨hd', hm, toS_eq (ymdB_iff.2 ⟨b1, b2, by omega, by omega, by omega, ?_⟩) ?_⟩)
      · have := dimS_bd y (m + 1) (by omega) (by omega); omega
      · unfold dayNo
        rw [show (m + 1 - 1).toNat = (m - 1).toNat + 1 by omega, hk]; omega
    · have hm' : m = 12 := by omega
      subst hm'
      have h12 : cumM y 12 = cumM y 11 + dimS y 12 := hk
      rw [cumM_12] at h12
      have hno' : ysS y + cumM y 11 + d - 1 = n := hno
      have hy := ysS_succ y (by omega)
      have hne : y ≠ 2199 := by
        rintro rfl
        have : ysS (2199 + 1) = 109573 := ysS_2200
        omega
      refine .inr (.inr ⟨hd', rfl, toS_eq (ymdB_iff.2 ⟨by omega, by omega, by omega, by omega, by omega, ?_⟩) ?_⟩)
      · have := dimS_bd (y + 1) 1 (by omega) (by omega); omega
      · show ysS (y + 1) + 0 + 1 - 1 = n + 1
        omega
end Go.Proofs.YtdnjfpmngnkcfaaGreatDoor
