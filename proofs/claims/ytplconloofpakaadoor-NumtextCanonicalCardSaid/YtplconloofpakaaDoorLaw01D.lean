/- The walks of the laws NumtextRoundTrip and NumtextCanonical. -/
import Derived.Test.YtplconloofpakaaDoorLaw01B
import Derived.Test.YtplconloofpakaaDoorCanonMath
namespace Go.Proofs.YtplconloofpakaaDoor
open Go.RowKit

theorem fixS_size (n p : Int) (h0 : -9223372036854775808 ≤ n) (h1 : n ≤ 9223372036854775807) : (fixS n (max 0 (min p 9))).size ≤ 1000000 := by
  have hl := absD_len n h0 h1
  unfold fixS
  split
  · have := numS_size n h0 h1; omega
  · rw [bs_size, fixT, List.length_append, List.length_append, List.length_append, List.length_take, List.length_drop, padD, List.length_append, List.length_replicate, sgn]
    split <;> simp <;> omega

set_option maxRecDepth 100000 in
set_option maxHeartbeats 4000000 in
theorem lawRound (n p : Int) (h0 : -9223372036854775808 ≤ n) (h1 : n ≤ 9223372036854775807) (w : World) (hP : Pow w) :
    Calls Tryd.prog 12 #[.int .i64 n, .int .i64 p] w (LawPost w) := by
  unfold LawPost
  have hK0 := Kept.refl w
  have H1 := Lib.hid (fun w => parseInt_any (numS n) (by have := numS_size n h0 h1; omega) w)
  have H2 := Lib.hid (fun w => parseFixed_any (fixS n (max 0 (min p 9))) p (fixS_size n p h0 h1) w)
  have H3 := Lib.hid (fun w hP => fmtInt_any n h0 h1 w hP)
  have H4 := Lib.hid (fun w hP => formatFixed_any n p h0 h1 w hP)
  rw [parP_refI, refI_num] at H1
  rw [refP_num] at H2
  have hc : (n < -4611686018427387904 ∧ rt n = (0, 3)) ∨ (-4611686018427387904 ≤ n ∧ 4611686018427387904 < n ∧ rt n = (0, 3)) ∨ (-4611686018427387904 ≤ n ∧ n ≤ 4611686018427387904 ∧ rt n = (n, 0)) := by
    by_cases a : n < -4611686018427387904
    · exact .inl ⟨a, by rw [rt, if_pos (.inl a)]⟩
    · by_cases b : 4611686018427387904 < n
      · exact .inr (.inl ⟨by omega, b, by rw [rt, if_pos (.inr b)]⟩)
      · exact .inr (.inr ⟨by omega, by omega, by rw [rt, if_neg (by omega)]⟩)
  generalize numS n = N at *
  generalize fixS n (max 0 (min p 9)) = M at *
  generalize rt n = r at *
  rcases hc with ⟨a, rfl⟩ | ⟨a, b, rfl⟩ | ⟨a, b, rfl⟩
  all_goals
    go_enter Tryd.func12, Tryd.ntmps12
    go_wp2_with (first
      | (go_at_call 36; refine (H3.out _ (hP.kept (by assumption))).mono ?_; rintro e w' ⟨rfl, hk⟩; have hK := Kept.trans (by assumption) hk)
      | (go_at_call 34; refine (H1.out _).mono ?_; rintro e w' ⟨rfl, hk⟩; dsimp only; have hK := Kept.trans (by assumption) hk)
      | (go_at_call 40; refine (H4.out _ (hP.kept (by assumption))).mono ?_; rintro e w' ⟨rfl, hk⟩; have hK := Kept.trans (by assumption) hk)
      | (go_at_call 38; refine (H2.out _).mono ?_; rintro e w' ⟨rfl, hk⟩; dsimp only; have hK := Kept.trans (by assumption) hk)
      | (go_at_call 33; refine (awake01_any _ (hP.kept (by assumption))).mono ?_; rintro e w' ⟨rfl, hk⟩; have hK := Kept.trans (by assumption) hk))
    go_ret
    exact ⟨rfl, by assumption⟩

theorem numR_bd (l : List UInt8) (neg : Bool) : -9223372036854775808 ≤ (numR l neg).1 ∧ (numR l neg).1 ≤ 9223372036854775807 := by
  unfold numR
  split
  · exact ⟨by decide, by decide⟩
  · split
    · exact ⟨by decide, by decide⟩
    · rename_i h
      unfold BB at h
      unfold signed
      dsimp only
      split <;> omega
theorem refI_bd (l : List UInt8) : -9223372036854775808 ≤ (refI l).1 ∧ (refI l).1 ≤ 9223372036854775807 := by
  unfold refI
  split
  · exact ⟨by decide, by decide⟩
  · exact numR_bd _ _
theorem refP_bd (l : List UInt8) (p : Int) : -9223372036854775808 ≤ (refP l p).1 ∧ (refP l p).1 ≤ 9223372036854775807 := by
  unfold refP
  split
  · exact refI_bd l
  · unfold refF
    split
    · exact ⟨by decide, by decide⟩
    · split
      · unfold finF
        split
        · exact ⟨by decide, by decide⟩
        · exact numR_bd _ _
      · exact ⟨by decide, by decide⟩
theorem linR_E (s : ByteArray) : ∃ E, Chain s 0 (linR s).1 E ∧ ((linR s).2 ≠ 0 ∨ ((linR s).2 = 0 ∧ E = s.size)) := by
  rcases linR_chain s with ⟨h1, h2⟩ | ⟨h1, h2⟩
  · exact ⟨0, by rw [h2]; rfl, .inl h1⟩
  · exact ⟨s.size, h2, .inr ⟨h1, rfl⟩⟩

set_option maxRecDepth 100000 in
set_option maxHeartbeats 8000000 in
theorem lawCanon (s : ByteArray) (p : Int) (w : World) (hP : Pow w) :
    Calls Tryd.prog 13 #[.string s, .int .i64 p] w (LawPost w) := by
  unfold LawPost
  have hK0 := Kept.refl w
  by_cases hb : 70000 < s.size
  · go_enter Tryd.func13, Tryd.ntmps13
    go_wp2_with (go_at_call 33; refine (awake01_any _ hP).mono ?_; rintro e w' ⟨rfl, hk⟩)
    go_ret
    exact ⟨rfl, hk⟩
  · have H1 := Lib.hid (fun w => parseInt_any s (by omega) w)
    have H2 := Lib.hid (fun w => parseFixed_any s p (by omega) w)
    rw [parP_refI] at H1
    have b1 := refI_bd (L s)
    have b2 := refP_bd (L s) p
    have C1 := Lib.hid (fun v (h : refI (L s) = (v, 0)) => L_inj.1 (refI_canon h))
    have C2 := Lib.hid (fun v (h : refP (L s) p = (v, 0)) => refP_canon h)
    have H3 := Lib.hid (fun w => lines_any s (by omega) w)
    obtain ⟨E, hE, hE2⟩ := linR_E s
    have hlen := linR_len s
    generalize linR s = R at *
    obtain ⟨X, c⟩ := R
    dsimp only at hE hE2 hlen
    generalize refI (L s) = r at *
    obtain ⟨r1, r2⟩ := r
    generalize refP (L s) p = t at *
    obtain ⟨t1, t2⟩ := t
    dsimp only at b1 b2
    have F1 := Lib.hid (fun w hP => fmtInt_any r1 b1.1 b1.2 w hP)
    have F2 := Lib.hid (fun w hP => formatFixed_any t1 p b2.1 b2.2 w hP)
    clear b1 b2
    have G1 : r2 ≠ 0 ∨ (r2 = 0 ∧ numS r1 = s) := by
      by_cases h : r2 = 0
      · subst h; exact .inr ⟨rfl, C1.out _ rfl⟩
      · exact .inl h
    have G2 : t2 ≠ 0 ∨ (t2 = 0 ∧ fixS t1 (max 0 (min p 9)) = s) := by
      by_cases h : t2 = 0
      · subst h; exact .inr ⟨rfl, C2.out _ rfl⟩
      · exact .inl h
    have HEE := Lib.hid hE
    have HE2 := Lib.hid hE2
    clear C1 C2 hE hE2
    rcases G1 with g1 | ⟨rfl, g1⟩ <;> rcases G2 with g2 | ⟨rfl, g2⟩
    all_goals
      try (rw [g1] at F1; clear g1)
      try (rw [g2] at F2; clear g2)
      go_enter Tryd.func13, Tryd.ntmps13
      go_wp2_with (first
        | (go_at_call 34; refine (H1.out _).mono ?_; rintro e w' ⟨rfl, hk⟩; dsimp only; have hK := Kept.trans (by assumption) hk)
        | (go_at_call 38; refine (H2.out _).mono ?_; rintro e w' ⟨rfl, hk⟩; dsimp only; have hK := Kept.trans (by assumption) hk)
        | (go_at_call 36; refine (F1.out _ (hP.kept (by assumption))).mono ?_; rintro e w' ⟨rfl, hk⟩; have hK := Kept.trans (by assumption) hk)
        | (go_at_call 40; refine (F2.out _ (hP.kept (by assumption))).mono ?_; rintro e w' ⟨rfl, hk⟩; have hK := Kept.trans (by assumption) hk)
        | (go_at_call 45; refine (H3.out _).mono ?_; rintro e w' ⟨v, rfl, hS, hk⟩; dsimp only at hS ⊢; have hK := Kept.trans (by assumption) hk; obtain ⟨A, cap, rfl, hA⟩ := hS; have HA := Lib.hid hA; clear hA))
      have hKs : Kept w w' := by assumption
      clear H1 H2 H3 F1 F2 hk
      go_loopw [11, 12] (fun x z wr => ∃ pos a : Nat, pos ≤ X.length ∧ x = .int .i64 a ∧ a ≤ s.size ∧ z = .int .i64 pos ∧ Kept w' wr ∧ Chain s a (X.drop pos) E) (fun _ z _ => (X.length - intOf z).toNat)
      case atStart => exact ⟨0, 0, Nat.zero_le _, rfl, Nat.zero_le _, rfl, Kept.refl _, by rw [List.drop_zero]; exact HEE.out⟩
      case round =>
        obtain ⟨pos, a, hps, rfl, ha, rfl, hKr, hch⟩ := hrel
        by_cases hp : pos < X.length
        · obtain ⟨b1, o1, rfl, hb1, hc1⟩ := HA.out (by omega)
          have c1 := hKr.cell (p := ⟨b1, o1 + pos, none⟩) hb1 (hc1 pos hp)
          have hw1 := Nat.lt_of_lt_of_le hb1 hKr.size
          have e1 : X[pos]?.getD ⟨#[]⟩ = X[pos]'hp := by rw [List.getElem?_eq_getElem hp]; rfl
          rw [e1] at c1
          rw [List.drop_eq_getElem_cons hp] at hch
          obtain ⟨m, hm, ham, hx, h10, hch2⟩ := hch
          clear hc1 e1
          generalize X[pos]'hp = x at *
          have zx : x.size = m - a := by rw [hx]; exact ext_size01 s a m (by omega)
          have hsum : (a : Int) + x.size = m := by omega
          have hxs : x.size ≤ 1000000 := by omega
          have hmI : (m : Int) < s.size := by omega
          have hamI : (a : Int) ≤ m := by omega
          have hmI2 : (m : Int) ≤ s.size := by omega
          have heq : ((s.extract a m).toList == x.toList) = true := by rw [hx]; simp
          have HCH := Lib.hid hch2
          have k1 : ∀ y : KW wr, y.W.cell? ⟨b1, o1 + pos, none⟩ = some (.string x) := fun y => KW.cell hw1 c1 y
          have hpI : (pos : Int) < X.length := by omega
          clear hx zx hch2 hb1 hw1
          have hge2 : decide (s.size ≤ m) = false := decide_eq_false (by omega)
          have hge : decide ((s.size : Int) ≤ (m : Int)) = false := decide_eq_false (by omega)
          go_wp2_with fail
          refine wp_region_kept (by kernel_rfl) (by kernel_rfl) ?_
          repeat (go_big_quiet_step (fail))
          refine wpQuiet_nil ?_
          rintro _ ⟨⟨wx, hx2⟩, rfl⟩
          go_wp2_with fail
          go_roundw
          case rel => exact ⟨pos + 1, m + 1, hp, by go_num, by omega, by go_num, hKr.trans hx2, HCH.out⟩
          case measure => simp only [intOf]; omega
        · rw [List.drop_of_length_le (by omega)] at hch
          have hEa : E = a := hch
          have HPW := Lib.hid (hP.kept (hKs.trans hKr))
          clear hch
          rcases HE2.out with hc | ⟨rfl, hc⟩
          · clear hEa
            go_wp2_with (go_at_call 33; refine (awake01_any _ HPW.out).mono ?_; rintro e w2 ⟨rfl, hk⟩)
            go_ret
            exact ⟨rfl, (hKs.trans hKr).trans hk⟩
          · obtain rfl : a = s.size := by omega
            clear hEa hc
            go_wp2_with (go_at_call 33; refine (awake01_any _ HPW.out).mono ?_; rintro e w2 ⟨rfl, hk⟩)
            go_ret
            exact ⟨rfl, (hKs.trans hKr).trans hk⟩
end Go.Proofs.YtplconloofpakaaDoor
