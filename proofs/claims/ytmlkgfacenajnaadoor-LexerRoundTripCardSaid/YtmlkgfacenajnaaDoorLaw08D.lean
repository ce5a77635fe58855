/- The walk of the law LexerRoundTrip. -/
import Derived.Test.YtmlkgfacenajnaaDoorLaw08B
import Derived.Test.YtmlkgfacenajnaaDoorLexJ
namespace Go.Proofs.YtmlkgfacenajnaaDoor
open Go.RowKit

theorem sameTs_symm : ∀ (a b : List Tok), sameTs a b → sameTs b a
  | [], [], _ => trivial
  | _ :: a, _ :: b, h => ⟨⟨h.1.1.symm, h.1.2.1.symm, h.1.2.2.symm⟩, sameTs_symm a b h.2⟩
  | [], _ :: _, h => h.elim
  | _ :: _, [], h => h.elim
set_option maxRecDepth 100000 in
set_option maxHeartbeats 8000000 in
theorem equal_same (va vb : Value) (xs ys : List Tok) (w : World) (ha : Toks w va xs) (hb : Toks w vb ys) (hs : sameTs xs ys) (hn : xs.length ≤ 1000000) :
    Calls Tryd.prog 21 #[va, vb] w fun e w' => e = .returned (.bool true) ∧ Kept w w' := by
  obtain ⟨A, ca, rfl, hA⟩ := ha.at_
  obtain ⟨B, cb, rfl, hB⟩ := hb.at_
  have hlen := sameTs_length xs ys hs
  obtain ⟨n, hxn⟩ : ∃ n, n = xs.length := ⟨_, rfl⟩
  rw [← hlen] at hB ⊢
  rw [← hxn] at hA hB hn hlen ⊢
  have HX := Lib.hid hxn
  have HY := Lib.hid hlen
  clear hxn hlen
  go_enter Tryd.func21, Tryd.ntmps21
  go_wp2_with fail
  go_loopw [5] (fun z wr => ∃ pos : Nat, pos ≤ n ∧ z = .int .i64 pos ∧ Kept w wr) (fun z _ => (n - intOf z).toNat)
  case atStart => exact ⟨0, Nat.zero_le _, rfl, Kept.refl _⟩
  case round =>
    obtain ⟨pos, hps, rfl, hK⟩ := hrel
    by_cases hp : pos < n
    · obtain ⟨b1, o1, rfl, hb1, hc1⟩ := hA (by omega)
      obtain ⟨b2, o2, rfl, hb2, hc2⟩ := hB (by omega)
      have hg : xs[pos]? = some (xs[pos]'(by have := HX.out; omega)) := List.getElem?_eq_getElem _
      have hg2 : ys[pos]? = some (ys[pos]'(by have := HY.out; omega)) := List.getElem?_eq_getElem _
      have hst := sameTs_get xs ys pos _ _ hs hg hg2
      obtain ⟨x0, x1, x2, _⟩ := hc1 pos _ hg
      obtain ⟨y0, y1, y2, _⟩ := hc2 pos _ hg2
      clear hc1 hc2 hA hB
      generalize xs[pos]'(by have := HX.out; omega) = T at *
      generalize ys[pos]'(by have := HY.out; omega) = U at *
      clear hg hg2
      obtain ⟨k, t, nn, o⟩ := T
      obtain ⟨k', t', nn', o'⟩ := U
      obtain ⟨s1, s2, s3⟩ := hst
      dsimp only at s1 s2 s3 x0 x1 x2 y0 y1 y2
      subst s1 s2 s3
      have hw1 := Nat.lt_of_lt_of_le hb1 hK.size
      have hw2 := Nat.lt_of_lt_of_le hb2 hK.size
      have k0 := KW.cell hw1 (hK.cell (p := ⟨b1, _, none⟩) hb1 x0)
      have k1 := KW.cell hw1 (hK.cell (p := ⟨b1, _, none⟩) hb1 x1)
      have k2 := KW.cell hw1 (hK.cell (p := ⟨b1, _, none⟩) hb1 x2)
      have m0 := KW.cell hw2 (hK.cell (p := ⟨b2, _, none⟩) hb2 y0)
      have m1 := KW.cell hw2 (hK.cell (p := ⟨b2, _, none⟩) hb2 y1)
      have m2 := KW.cell hw2 (hK.cell (p := ⟨b2, _, none⟩) hb2 y2)
      clear x0 x1 x2 y0 y1 y2
      have hpi : (pos : Int) < n := by omega
      have e0 : (k != k) = false := by simp
      have e1 : ((bs t).toList != (bs t).toList) = false := by simp
      have e2 : (nn != nn) = false := by simp
      go_wp2_with fail
      refine wp_region_kept (by kernel_rfl) (by kernel_rfl) ?_
      repeat (go_big_quiet_step (fail))
      refine wpQuiet_nil ?_
      rintro _ ⟨⟨wx, hx2⟩, rfl⟩
      go_wp2_with fail
      go_roundw
      case rel => exact ⟨pos + 1, hp, by go_num, hK.trans hx2⟩
      case measure => simp only [intOf]; omega
    · have hpi : ¬ ((pos : Int) < n) := by omega
      go_wp2_with fail
      go_ret
      exact ⟨rfl, hK⟩

theorem tok_count3 {l : List UInt8} (h3 : l.length ≤ 3000) : (tokR l).1.length ≤ 3001 := by
  have e : tokR l = lexF (l.length + 1) l 0 := by rw [tokR, if_neg (by omega)]
  rw [e]
  have := lexF_count (l.length + 1) l 0
  omega
theorem tok_text {l : List UInt8} (h3 : l.length ≤ 3000) (h : (tokR l).2.2 = 0) (t : Tok) (ht : t ∈ (tokR l).1) : t.t.length ≤ 4000 := by
  obtain ⟨i, hi, e⟩ := List.getElem_of_mem ht
  have hat := (tok_ok h3 h i t (by rw [List.getElem?_eq_getElem hi, e])).1
  obtain ⟨p, _, hl, _⟩ := hat
  omega
theorem tok_nil {l : List UInt8} (h3 : l.length ≤ 3000) (h : (tokR l).2.2 ≠ 0) : (tokR l).1 = [] := by
  have e : tokR l = lexF (l.length + 1) (l.drop 0) 0 := by rw [tokR, if_neg (by omega), List.drop_zero]
  rw [e] at h ⊢
  exact (lexF_err l (l.length + 1) 0 (Nat.zero_le _) h).1
theorem same_text : ∀ (a b : List Tok) (M : Nat), sameTs a b → (∀ t, t ∈ b → t.t.length ≤ M) → ∀ t, t ∈ a → t.t.length ≤ M
  | [], [], _, _, _, _, h => by simp at h
  | x :: a, y :: b, M, h, hl, t, ht => by
    rcases List.mem_cons.1 ht with rfl | ht
    · rw [h.1.2.1]; exact hl y (by simp)
    · exact same_text a b M h.2 (fun u hu => hl u (by simp [hu])) t ht
  | [], _ :: _, _, h, _, _, _ => h.elim
  | _ :: _, [], _, h, _, _, _ => h.elim

set_option maxRecDepth 100000 in
set_option maxHeartbeats 8000000 in
theorem lawLexRoundTrip (s : ByteArray) (hs : s.size ≤ maxLen) (w : World) (hM : Mon w) :
    Calls Tryd.prog 7 #[.string s] w (LawPost w) := by
  unfold LawPost
  unfold maxLen at hs
  by_cases h3 : 3000 < s.size
  · have h3i : 3000 < (s.size : Int) := by omega
    go_enter Tryd.func7, Tryd.ntmps7
    go_wp2_with (go_at_call 13; refine (awake08_any _ hM).mono ?_; rintro e w' ⟨rfl, hk⟩)
    go_ret
    exact ⟨rfl, hk⟩
  · have h3i : ¬ (3000 < (s.size : Int)) := by omega
    have h3l : (L s).length ≤ 3000 := by rw [L_length]; omega
    have HT := Lib.hid (fun w hM => tokenize_any s (by omega) w hM)
    unfold tokPost at HT
    by_cases hc : (tokR (L s)).2.2 = 0
    · obtain ⟨r1, r2, m, r3, r4, r5⟩ := lex_round h3l hc
      have hcnt := tok_count3 h3l
      have htx := tok_text h3l hc
      have hst := lexF_ok
      have hat : (tokR (L s)).2.1 = 0 := by
        have e : tokR (L s) = lexF ((L s).length + 1) (L s) 0 := by rw [tokR, if_neg (by omega)]
        rw [e] at hc ⊢
        exact lexF_ok _ _ _ hc
      have hml := sameTs_length m _ r4
      have hmt := same_text m _ 4000 r4 htx
      generalize tokR (L s) = R at *
      obtain ⟨xs, at_, code⟩ := R
      dsimp only at hc hat r1 r2 r3 r4 r5 hcnt htx hml hmt HT
      subst hc hat
      generalize hJ : joinF none xs = J at *
      clear hJ hst
      have HF1 := Lib.hid (fun v W hTv hMW => format08_any v xs W hTv hMW (by omega) htx)
      have HF2 := Lib.hid (fun v W hTv hMW => format08_any v m W hTv hMW (by omega) hmt)
      have HT2 := Lib.hid (fun w hM => tokenize_any (bs J) (by rw [bs_size]; omega) w hM)
      unfold fmtPost at HF1 HF2
      unfold tokPost at HT2
      rw [r1] at HF1
      rw [r5] at HF2
      rw [L_bs, r3] at HT2
      dsimp only at HF1 HF2 HT2
      have HSM := Lib.hid (sameTs_symm _ _ r4)
      have hxc : xs.length ≤ 1000000 := by omega
      clear r1 r3 r4 r5 htx hmt hml h3l
      have hself : ((bs J).toList == (bs J).toList) = true := by simp
      generalize bs J = S at *
      go_enter Tryd.func7, Tryd.ntmps7
      go_wp2_with fail
      refine (HT.out _ hM).mono ?_
      rintro e w1 ⟨v1, rfl, hT1, k1⟩
      have HT1 := Lib.hid hT1
      clear hT1
      go_wp2_with fail
      refine (HF1.out _ _ HT1.out (hM.kept k1)).mono ?_
      rintro e w2 ⟨rfl, k2⟩
      go_wp2_with fail
      refine (HT2.out _ (hM.kept (k1.trans k2))).mono ?_
      rintro e w3 ⟨v3, rfl, hT3, k3⟩
      have HT3 := Lib.hid hT3
      clear hT3
      go_wp2_with fail
      refine (HF2.out _ _ HT3.out (hM.kept ((k1.trans k2).trans k3))).mono ?_
      rintro e w4 ⟨rfl, k4⟩
      have hK4 := ((k1.trans k2).trans k3).trans k4
      go_wp2_with (first
        | (go_at_call 21; refine (equal_same _ _ xs m _ (Recs.kept HT1.out ((k2.trans k3).trans k4)) (Recs.kept HT3.out k4) HSM.out hxc).mono ?_; rintro e w5 ⟨rfl, k5⟩; have hK5 := hK4.trans k5)
        | (go_at_call 13; refine (awake08_any _ (hM.kept hK5)).mono ?_; rintro e w' ⟨rfl, hk⟩))
      go_ret
      exact ⟨rfl, hK5.trans hk⟩
    · have hnil := tok_nil h3l hc
      generalize tokR (L s) = R at *
      obtain ⟨xs, at_, code⟩ := R
      dsimp only at hc hnil HT
      subst hnil
      have hcb : (code != 0) = true := by simpa using hc
      clear hc
      go_enter Tryd.func7, Tryd.ntmps7
      go_wp2_with fail
      refine (HT.out _ hM).mono ?_
      rintro e w1 ⟨v1, rfl, hT1, k1⟩
      obtain ⟨A, cap, rfl, _⟩ := hT1
      simp only [List.length_nil]
      go_wp2_with (go_at_call 13; refine (awake08_any _ (hM.kept k1)).mono ?_; rintro e w' ⟨rfl, hk⟩)
      go_ret
      exact ⟨rfl, k1.trans hk⟩
end Go.Proofs.YtmlkgfacenajnaaDoor
