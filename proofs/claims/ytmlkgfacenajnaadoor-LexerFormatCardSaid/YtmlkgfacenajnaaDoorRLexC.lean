/- What number of the reference of the lexer computes. -/
import Derived.Test.YtmlkgfacenajnaaDoorRLexA
import Derived.Test.YtmlkgfacenajnaaDoorLexE
import Derived.Deep.DeepCutAuto
namespace Go.Proofs.YtmlkgfacenajnaaDoor
open Go.RowKit

theorem dated_par {l : List UInt8} (h : datedB l = true) : (dparS (bs (l.take 10))).2 = 0 ∨ (dparS (bs (l.take 10))).2 = 3 := by
  have hl : 10 ≤ l.length := by
    simp only [datedB, Bool.and_eq_true, decide_eq_true_eq] at h
    exact h.1
  match l, hl with
  | a0 :: a1 :: a2 :: a3 :: a4 :: a5 :: a6 :: a7 :: a8 :: a9 :: r, _ =>
    have e : dparB (bs [a0, a1, a2, a3, a4, a5, a6, a7, a8, a9]) = true := by
      unfold dparB
      rw [L_extract, L_extract, L_extract, L_bs, bs_size]
      simp only [datedB, Bool.and_eq_true, decide_eq_true_eq] at h ⊢
      obtain ⟨_, h1, h2, h3, h4, h5⟩ := h
      first | exact ⟨rfl, h2, h4, h1, h3, h5⟩ | exact ⟨h2, h4, h1, h3, h5⟩
    show (dparS (bs [a0, a1, a2, a3, a4, a5, a6, a7, a8, a9])).2 = 0 ∨ (dparS (bs [a0, a1, a2, a3, a4, a5, a6, a7, a8, a9])).2 = 3
    rw [dparS_yes e]
    unfold fromS
    split
    · exact .inl rfl
    · exact .inr rfl
/-- what the reference answers for a number -/
theorem lx_rdate {l : List UInt8} {N : Nat} {d c : Int} (h : KN l 5 N) (hD : datedB l = true) (hg : gluedAt l[N]? = false) (hp : dparS (bs (l.take N)) = (d, c)) :
    (lxNum l).code = c ∧ (c = 0 → lxNum l = ⟨0, 5, l.take N, d, N⟩) := by
  have e1 : (lxKL l).1 = 5 := by rw [h.1]
  have e2 : (lxKL l).2 = N := by rw [h.1]
  have hN : N = 10 := by
    have : lxKL l = (5, 10) := by unfold lxKL; rw [hD]; rfl
    rw [this] at e2; exact e2.symm
  have hc := dated_par hD
  rw [← hN, hp] at hc
  have hv : lxVal 5 (l.take N) = if c = 0 then (d, c) else (0, 3) := by
    show (if (dparS (bs (l.take N))).2 = 0 then dparS (bs (l.take N)) else (0, 3)) = _
    rw [hp]
  unfold lxNum
  rw [h.2.1, e1, e2, hg, hv]
  rcases hc with hc | hc
  · have : c = 0 := hc
    subst this
    exact ⟨rfl, fun _ => rfl⟩
  · have : c = 3 := hc
    subst this
    exact ⟨rfl, fun h => absurd h (by decide)⟩
theorem lx_rnum {l : List UInt8} {K : Int} {N : Nat} (h : KN l K N) (hK : K ≠ 5) (hg : gluedAt l[N]? = false) :
    (mostK K < digsN (l.take N) ∧ lxNum l = .err 3) ∨ ((digsN (l.take N) : Int) ≤ mostK K ∧ lxNum l = ⟨0, K, l.take N, digsN (l.take N), N⟩) := by
  have e1 : (lxKL l).1 = K := by rw [h.1]
  have e2 : (lxKL l).2 = N := by rw [h.1]
  unfold lxNum
  rw [h.2.1, e1, e2, hg]
  unfold lxVal
  rw [if_neg hK]
  by_cases hm : mostK K < (digsN (l.take N) : Nat)
  · left; exact ⟨hm, by rw [if_pos hm]; rfl⟩
  · right; exact ⟨by omega, by rw [if_neg hm]; rfl⟩
theorem lx_rglued {l : List UInt8} {K : Int} {N : Nat} (h : KN l K N) (hg : gluedAt l[N]? = true) : lxNum l = .err 2 := by
  rw [lxNum, h.1, h.2.1, hg]; rfl
theorem rparse_is {s : ByteArray} {d c : Int} (h : dparS s = (d, c)) (w : World) : Calls Tryd.prog 105 #[.string s] w fun e w' => e = .returned (.tuple #[.int .i64 d, .int .i64 c]) ∧ Kept w w' := by
  have := rparse_any s w
  rw [h] at this
  exact this

set_option maxRecDepth 100000 in
set_option maxHeartbeats 8000000 in
theorem rnumber08_any (s : ByteArray) (i : Nat) (hs : s.size ≤ 100000) (hi : i < s.size) (hd0 : isDig (s[i]'hi) = true) (w : World) :
    Calls Tryd.prog 78 #[.string s, .int .i64 i] w (rPost (lxNum ((L s).drop i)) i w) := by
  have hdr := L_drop s i hi
  have hW1 : 1 ≤ lead_of isDig ((L s).drop i) := by rw [hdr]; exact lead_of_pos hd0
  have hWl := lead_of_le isDig ((L s).drop i)
  rw [List.length_drop, L_length] at hWl
  have RR := fun w => rrun_any s i (by omega) (by omega) w
  have RR2 := fun w => rrun_any s (i + lead_of isDig ((L s).drop i) + 1) (by omega) (by omega) w
  have RD := fun w => rdated_any s i (by omega) (by omega) w
  have hkl : lxKL ((L s).drop i) = if datedB ((L s).drop i) then (5, 10) else if ((L s).drop i)[lead_of isDig ((L s).drop i)]? == some 46 && lead_of isDig (((L s).drop i).drop (lead_of isDig ((L s).drop i) + 1)) == 2 then (3, lead_of isDig ((L s).drop i) + 3) else if (((L s).drop i)[lead_of isDig ((L s).drop i)]? == some 46 && lead_of isDig (((L s).drop i).drop (lead_of isDig ((L s).drop i) + 1)) == 4) && ((L s).drop i)[lead_of isDig ((L s).drop i) + 5]? == some 37 then (4, lead_of isDig ((L s).drop i) + 6) else (2, lead_of isDig ((L s).drop i)) := rfl
  have HL := Lib.hid (fun K N (h : lxKL ((L s).drop i) = (K, N)) => (show N ≤ ((L s).drop i).length by have := lxKL_le (l := (L s).drop i); rw [h] at this; exact this))
  have hz : zeroB ((L s).drop i) = (!datedB ((L s).drop i) && (decide (1 < lead_of isDig ((L s).drop i)) && ((L s).drop i)[0]? == some 48)) := rfl
  rw [List.getElem?_drop, Nat.add_zero, L_get s i hi] at hz
  have hz48 : (some (s[i]'hi) == some 48) = (((s[i]'hi).toNat : Int) == 48) := by
    rw [Bool.eq_iff_iff, beq_iff_eq, beq_iff_eq, Option.some.injEq, ← UInt8.toNat_inj]
    have : (48 : UInt8).toNat = 48 := rfl
    omega
  rw [hz48] at hz
  rw [List.drop_drop, List.getElem?_drop, List.getElem?_drop] at hkl
  have hF := lead_of_le isDig ((L s).drop (i + lead_of isDig ((L s).drop i) + 1))
  rw [List.length_drop, L_length] at hF
  rw [← Nat.add_assoc i] at hkl
  have HZ1 := Lib.hid (fun h => lx_zero (l := (L s).drop i) h)
  have HHd := Lib.hid (show (datedB ((L s).drop i)) = (datedB ((L s).drop i)) from rfl)
  clear hz48 hd0 hdr
  generalize hWW : lead_of isDig ((L s).drop i) = W at *
  generalize hFF : lead_of isDig ((L s).drop (i + W + 1)) = F at *
  generalize hDD : datedB ((L s).drop i) = D at *
  generalize hc48 : (((s[i]'hi).toNat : Int) == 48) = Z at *
  have HKL := Lib.hid hkl
  have HZZ := Lib.hid hz
  have HC48 := Lib.hid hc48
  have HRR := Lib.hid RR
  have HR2 := Lib.hid RR2
  have HRD := Lib.hid RD
  have HDD := Lib.hid hDD
  clear hkl hz RR RR2 RD hWW hFF hDD hc48
  have hii : (i : Int) < s.size := by omega
  go_enter Tryd.func78, Tryd.ntmps78
  go_upto_if 21 with (first
    | (go_at_call 102; refine (HRR.out _).mono ?_; rintro e w' ⟨rfl, rfl⟩)
    | (go_at_call 103; refine (HRD.out _).mono ?_; rintro e w' ⟨rfl, rfl⟩))
  clear HRR HRD
  go_cut [8, 9] (fun e m wx => ∃ (K : Int) (N : Nat) (most : Int), e = .int .i64 ((i : Int) + N) ∧ m = .int .i64 most ∧ KN ((L s).drop i) K N ∧ ((K = 5 ∧ D = true) ∨ (K ≠ 5 ∧ most = mostK K)) ∧ wx = (w.alloc (.cells #[.int .i64 0, .string ⟨#[]⟩, .int .i64 0, .int .i64 0] 30)).alloc (.cells #[.int .i64 K, .string ⟨#[]⟩, .int .i64 0, .int .i64 i] 30))
  case first =>
    cases D
    · by_cases hl : i + W < s.size
      · have hg := L_get s (i + W) hl
        have hli : (i : Int) + W < s.size := by omega
        have e46 : (some (s[i + W]'hl) == some 46) = (((s[i + W]'hl).toNat : Int) == 46) := by
          rw [Bool.eq_iff_iff, beq_iff_eq, beq_iff_eq, Option.some.injEq, ← UInt8.toNat_inj]
          have : (46 : UInt8).toNat = 46 := rfl
          omega
        have hP : ((L s)[i + W]? == some 46) = (((s[i + W]'hl).toNat : Int) == 46) := by rw [hg, e46]
        clear hg e46
        cases h46 : (((s[i + W]'hl).toNat : Int) == 46)
        · have HK := Lib.hid (show lxKL ((L s).drop i) = (2, W) by rw [HKL.out, hP, h46]; rfl)
          clear hP
          rcases (show (1 < W ∧ Z = true) ∨ (1 < W ∧ Z = false) ∨ ¬ 1 < W by cases Z <;> simp <;> omega) with ⟨w1, rfl⟩ | ⟨w1, rfl⟩ | w1
          · have HR := Lib.hid (HZ1.out (by rw [HZZ.out]; simp [w1]))
            have hc48 := HC48.out
            have w1i : 1 < (i : Int) + W - i := by omega
            go_wp2_with (go_at_call 102; refine (HR2.out _).mono ?_; rintro e w' ⟨rfl, rfl⟩)
            refine bodyPost_ret (v := .tuple #[.agg #[.int .i64 0, .string ⟨#[]⟩, .int .i64 0, .int .i64 0], .int .i64 0, .int .i64 2]) (by simp [results, Tryd.results78, go_sem]) rfl ?_
            unfold rPost
            rw [HR.out]
            exact ⟨0, ⟨#[]⟩, 0, 0, 0, rfl, fun h => absurd h (by decide), ((Kept.refl _).alloc _).alloc _⟩
          · have HZ := Lib.hid (show zeroB ((L s).drop i) = false by rw [HZZ.out]; simp [w1])
            have hc48 := HC48.out
            go_wp2_with (go_at_call 102; refine (HR2.out _).mono ?_; rintro e w' ⟨rfl, rfl⟩)
            go_meet
            case rel => exact ⟨2, W, 1000000000000, rfl, by go_num, ⟨HK.out, HZ.out, HL.out _ _ HK.out, by omega⟩, .inr ⟨by decide, rfl⟩, rfl⟩
          · have HZ := Lib.hid (show zeroB ((L s).drop i) = false by rw [HZZ.out]; simp [w1])
            have hc48 := HC48.out
            have w1i : ¬ (1 < (i : Int) + W - i) := by omega
            cases Z
            · go_wp2_with (go_at_call 102; refine (HR2.out _).mono ?_; rintro e w' ⟨rfl, rfl⟩)
              go_meet
              case rel => exact ⟨2, W, 1000000000000, rfl, by go_num, ⟨HK.out, HZ.out, HL.out _ _ HK.out, by omega⟩, .inr ⟨by decide, rfl⟩, rfl⟩
            · go_wp2_with (go_at_call 102; refine (HR2.out _).mono ?_; rintro e w' ⟨rfl, rfl⟩)
              go_meet
              case rel => exact ⟨2, W, 1000000000000, rfl, by go_num, ⟨HK.out, HZ.out, HL.out _ _ HK.out, by omega⟩, .inr ⟨by decide, rfl⟩, rfl⟩
        · rw [h46] at hP
          by_cases h2 : F = 2
          · have HK := Lib.hid (show lxKL ((L s).drop i) = (3, W + 3) by rw [HKL.out, hP, h2]; rfl)
            have h2i : (((i : Int) + W + 1 + F) - (i + W) - 1 == 2) = true := by rw [beq_iff_eq]; omega
            clear hP
            subst h2
            rcases (show (1 < W ∧ Z = true) ∨ (1 < W ∧ Z = false) ∨ ¬ 1 < W by cases Z <;> simp <;> omega) with ⟨w1, rfl⟩ | ⟨w1, rfl⟩ | w1
            · have HR := Lib.hid (HZ1.out (by rw [HZZ.out]; simp [w1]))
              have hc48 := HC48.out
              have w1i : 1 < (i : Int) + W - i := by omega
              go_wp2_with (go_at_call 102; refine (HR2.out _).mono ?_; rintro e w' ⟨rfl, rfl⟩)
              refine bodyPost_ret (v := .tuple #[.agg #[.int .i64 0, .string ⟨#[]⟩, .int .i64 0, .int .i64 0], .int .i64 0, .int .i64 2]) (by simp [results, Tryd.results78, go_sem]) rfl ?_
              unfold rPost
              rw [HR.out]
              exact ⟨0, ⟨#[]⟩, 0, 0, 0, rfl, fun h => absurd h (by decide), ((Kept.refl _).alloc _).alloc _⟩
            · have HZ := Lib.hid (show zeroB ((L s).drop i) = false by rw [HZZ.out]; simp [w1])
              have hc48 := HC48.out
              go_wp2_with (go_at_call 102; refine (HR2.out _).mono ?_; rintro e w' ⟨rfl, rfl⟩)
              go_meet
              case rel => exact ⟨3, W + 3, 1000000000000000, rfl, by go_num, ⟨HK.out, HZ.out, HL.out _ _ HK.out, by omega⟩, .inr ⟨by decide, rfl⟩, rfl⟩
            · have HZ := Lib.hid (show zeroB ((L s).drop i) = false by rw [HZZ.out]; simp [w1])
              have hc48 := HC48.out
              have w1i : ¬ (1 < (i : Int) + W - i) := by omega
              cases Z
              · go_wp2_with (go_at_call 102; refine (HR2.out _).mono ?_; rintro e w' ⟨rfl, rfl⟩)
                go_meet
                case rel => exact ⟨3, W + 3, 1000000000000000, rfl, by go_num, ⟨HK.out, HZ.out, HL.out _ _ HK.out, by omega⟩, .inr ⟨by decide, rfl⟩, rfl⟩
              · go_wp2_with (go_at_call 102; refine (HR2.out _).mono ?_; rintro e w' ⟨rfl, rfl⟩)
                go_meet
                case rel => exact ⟨3, W + 3, 1000000000000000, rfl, by go_num, ⟨HK.out, HZ.out, HL.out _ _ HK.out, by omega⟩, .inr ⟨by decide, rfl⟩, rfl⟩
          · have h2n : (F == 2) = false := by rw [beq_eq_false_iff_ne]; exact h2
            have h2i : (((i : Int) + W + 1 + F) - (i + W) - 1 == 2) = false := by rw [beq_eq_false_iff_ne]; omega
            by_cases h4 : F = 4
            · subst h4
              clear h2i h2
              by_cases hl5 : i + W + 5 < s.size
              · have hg := L_get s (i + W + 5) hl5
                have hl5i : (i : Int) + W + 5 < s.size := by omega
                have e37 : (some (s[i + W + 5]'hl5) == some 37) = (((s[i + W + 5]'hl5).toNat : Int) == 37) := by
                  rw [Bool.eq_iff_iff, beq_iff_eq, beq_iff_eq, Option.some.injEq, ← UInt8.toNat_inj]
                  have : (37 : UInt8).toNat = 37 := rfl
                  omega
                have hQ : ((L s)[i + W + 5]? == some 37) = (((s[i + W + 5]'hl5).toNat : Int) == 37) := by rw [hg, e37]
                have hQ2 : ((L s)[i + (W + 5)]? == some 37) = (((s[i + W + 5]'hl5).toNat : Int) == 37) := by rw [← Nat.add_assoc]; exact hQ
                clear hg e37
                cases h37 : (((s[i + W + 5]'hl5).toNat : Int) == 37)
                · have HK := Lib.hid (show lxKL ((L s).drop i) = (2, W) by rw [HKL.out, hP, hQ2, h37]; rfl)
                  clear hP hQ hQ2 h2n
                  rcases (show (1 < W ∧ Z = true) ∨ (1 < W ∧ Z = false) ∨ ¬ 1 < W by cases Z <;> simp <;> omega) with ⟨w1, rfl⟩ | ⟨w1, rfl⟩ | w1
                  · have HR := Lib.hid (HZ1.out (by rw [HZZ.out]; simp [w1]))
                    have hc48 := HC48.out
                    have w1i : 1 < (i : Int) + W - i := by omega
                    go_wp2_with (go_at_call 102; refine (HR2.out _).mono ?_; rintro e w' ⟨rfl, rfl⟩)
                    refine bodyPost_ret (v := .tuple #[.agg #[.int .i64 0, .string ⟨#[]⟩, .int .i64 0, .int .i64 0], .int .i64 0, .int .i64 2]) (by simp [results, Tryd.results78, go_sem]) rfl ?_
                    unfold rPost
                    rw [HR.out]
                    exact ⟨0, ⟨#[]⟩, 0, 0, 0, rfl, fun h => absurd h (by decide), ((Kept.refl _).alloc _).alloc _⟩
                  · have HZ := Lib.hid (show zeroB ((L s).drop i) = false by rw [HZZ.out]; simp [w1])
                    have hc48 := HC48.out
                    go_wp2_with (go_at_call 102; refine (HR2.out _).mono ?_; rintro e w' ⟨rfl, rfl⟩)
                    go_meet
                    case rel => exact ⟨2, W, 1000000000000, rfl, by go_num, ⟨HK.out, HZ.out, HL.out _ _ HK.out, by omega⟩, .inr ⟨by decide, rfl⟩, rfl⟩
                  · have HZ := Lib.hid (show zeroB ((L s).drop i) = false by rw [HZZ.out]; simp [w1])
                    have hc48 := HC48.out
                    have w1i : ¬ (1 < (i : Int) + W - i) := by omega
                    cases Z
                    · go_wp2_with (go_at_call 102; refine (HR2.out _).mono ?_; rintro e w' ⟨rfl, rfl⟩)
                      go_meet
                      case rel => exact ⟨2, W, 1000000000000, rfl, by go_num, ⟨HK.out, HZ.out, HL.out _ _ HK.out, by omega⟩, .inr ⟨by decide, rfl⟩, rfl⟩
                    · go_wp2_with (go_at_call 102; refine (HR2.out _).mono ?_; rintro e w' ⟨rfl, rfl⟩)
                      go_meet
                      case rel => exact ⟨2, W, 1000000000000, rfl, by go_num, ⟨HK.out, HZ.out, HL.out _ _ HK.out, by omega⟩, .inr ⟨by decide, rfl⟩, rfl⟩
                · have HK := Lib.hid (show lxKL ((L s).drop i) = (4, W + 6) by rw [HKL.out, hP, hQ2, h37]; rfl)
                  clear hP hQ hQ2 h2n
                  rcases (show (1 < W ∧ Z = true) ∨ (1 < W ∧ Z = false) ∨ ¬ 1 < W by cases Z <;> simp <;> omega) with ⟨w1, rfl⟩ | ⟨w1, rfl⟩ | w1
                  · have HR := Lib.hid (HZ1.out (by rw [HZZ.out]; simp [w1]))
                    have hc48 := HC48.out
                    have w1i : 1 < (i : Int) + W - i := by omega
                    go_wp2_with (go_at_call 102; refine (HR2.out _).mono ?_; rintro e w' ⟨rfl, rfl⟩)
                    refine bodyPost_ret (v := .tuple #[.agg #[.int .i64 0, .string ⟨#[]⟩, .int .i64 0, .int .i64 0], .int .i64 0, .int .i64 2]) (by simp [results, Tryd.results78, go_sem]) rfl ?_
                    unfold rPost
                    rw [HR.out]
                    exact ⟨0, ⟨#[]⟩, 0, 0, 0, rfl, fun h => absurd h (by decide), ((Kept.refl _).alloc _).alloc _⟩
                  · have HZ := Lib.hid (show zeroB ((L s).drop i) = false by rw [HZZ.out]; simp [w1])
                    have hc48 := HC48.out
                    go_wp2_with (go_at_call 102; refine (HR2.out _).mono ?_; rintro e w' ⟨rfl, rfl⟩)
                    go_meet
                    case rel => exact ⟨4, W + 6, 1000000000, rfl, by go_num, ⟨HK.out, HZ.out, HL.out _ _ HK.out, by omega⟩, .inr ⟨by decide, rfl⟩, rfl⟩
                  · have HZ := Lib.hid (show zeroB ((L s).drop i) = false by rw [HZZ.out]; simp [w1])
                    have hc48 := HC48.out
                    have w1i : ¬ (1 < (i : Int) + W - i) := by omega
                    cases Z
                    · go_wp2_with (go_at_call 102; refine (HR2.out _).mono ?_; rintro e w' ⟨rfl, rfl⟩)
                      go_meet
                      case rel => exact ⟨4, W + 6, 1000000000, rfl, by go_num, ⟨HK.out, HZ.out, HL.out _ _ HK.out, by omega⟩, .inr ⟨by decide, rfl⟩, rfl⟩
                    · go_wp2_with (go_at_call 102; refine (HR2.out _).mono ?_; rintro e w' ⟨rfl, rfl⟩)
                      go_meet
                      case rel => exact ⟨4, W + 6, 1000000000, rfl, by go_num, ⟨HK.out, HZ.out, HL.out _ _ HK.out, by omega⟩, .inr ⟨by decide, rfl⟩, rfl⟩
              · have hQ : (L s)[i + W + 5]? = none := List.getElem?_eq_none (by rw [L_length]; omega)
                have hQ2 := hQ
                rw [Nat.add_assoc] at hQ2
                have hl5i : ¬ ((i : Int) + W + 5 < s.size) := by omega
                have HK := Lib.hid (show lxKL ((L s).drop i) = (2, W) by rw [HKL.out, hP, hQ2]; rfl)
                clear hP hQ hQ2 h2n
                rcases (show (1 < W ∧ Z = true) ∨ (1 < W ∧ Z = false) ∨ ¬ 1 < W by cases Z <;> simp <;> omega) with ⟨w1, rfl⟩ | ⟨w1, rfl⟩ | w1
                · have HR := Lib.hid (HZ1.out (by rw [HZZ.out]; simp [w1]))
                  have hc48 := HC48.out
                  have w1i : 1 < (i : Int) + W - i := by omega
                  go_wp2_with (go_at_call 102; refine (HR2.out _).mono ?_; rintro e w' ⟨rfl, rfl⟩)
                  refine bodyPost_ret (v := .tuple #[.agg #[.int .i64 0, .string ⟨#[]⟩, .int .i64 0, .int .i64 0], .int .i64 0, .int .i64 2]) (by simp [results, Tryd.results78, go_sem]) rfl ?_
                  unfold rPost
                  rw [HR.out]
                  exact ⟨0, ⟨#[]⟩, 0, 0, 0, rfl, fun h => absurd h (by decide), ((Kept.refl _).alloc _).alloc _⟩
                · have HZ := Lib.hid (show zeroB ((L s).drop i) = false by rw [HZZ.out]; simp [w1])
                  have hc48 := HC48.out
                  go_wp2_with (go_at_call 102; refine (HR2.out _).mono ?_; rintro e w' ⟨rfl, rfl⟩)
                  go_meet
                  case rel => exact ⟨2, W, 1000000000000, rfl, by go_num, ⟨HK.out, HZ.out, HL.out _ _ HK.out, by omega⟩, .inr ⟨by decide, rfl⟩, rfl⟩
                · have HZ := Lib.hid (show zeroB ((L s).drop i) = false by rw [HZZ.out]; simp [w1])
                  have hc48 := HC48.out
                  have w1i : ¬ (1 < (i : Int) + W - i) := by omega
                  cases Z
                  · go_wp2_with (go_at_call 102; refine (HR2.out _).mono ?_; rintro e w' ⟨rfl, rfl⟩)
                    go_meet
                    case rel => exact ⟨2, W, 1000000000000, rfl, by go_num, ⟨HK.out, HZ.out, HL.out _ _ HK.out, by omega⟩, .inr ⟨by decide, rfl⟩, rfl⟩
                  · go_wp2_with (go_at_call 102; refine (HR2.out _).mono ?_; rintro e w' ⟨rfl, rfl⟩)
                    go_meet
                    case rel => exact ⟨2, W, 1000000000000, rfl, by go_num, ⟨HK.out, HZ.out, HL.out _ _ HK.out, by omega⟩, .inr ⟨by decide, rfl⟩, rfl⟩
            · have h4n : (F == 4) = false := by rw [beq_eq_false_iff_ne]; exact h4
              have h4i : (((i : Int) + W + 1 + F) - (i + W) - 1 == 4) = false := by rw [beq_eq_false_iff_ne]; omega
              have HK := Lib.hid (show lxKL ((L s).drop i) = (2, W) by rw [HKL.out, hP, h2n, h4n]; rfl)
              clear hP h2n h4n
              rcases (show (1 < W ∧ Z = true) ∨ (1 < W ∧ Z = false) ∨ ¬ 1 < W by cases Z <;> simp <;> omega) with ⟨w1, rfl⟩ | ⟨w1, rfl⟩ | w1
              · have HR := Lib.hid (HZ1.out (by rw [HZZ.out]; simp [w1]))
                have hc48 := HC48.out
                have w1i : 1 < (i : Int) + W - i := by omega
                go_wp2_with (go_at_call 102; refine (HR2.out _).mono ?_; rintro e w' ⟨rfl, rfl⟩)
                refine bodyPost_ret (v := .tuple #[.agg #[.int .i64 0, .string ⟨#[]⟩, .int .i64 0, .int .i64 0], .int .i64 0, .int .i64 2]) (by simp [results, Tryd.results78, go_sem]) rfl ?_
                unfold rPost
                rw [HR.out]
                exact ⟨0, ⟨#[]⟩, 0, 0, 0, rfl, fun h => absurd h (by decide), ((Kept.refl _).alloc _).alloc _⟩
              · have HZ := Lib.hid (show zeroB ((L s).drop i) = false by rw [HZZ.out]; simp [w1])
                have hc48 := HC48.out
                go_wp2_with (go_at_call 102; refine (HR2.out _).mono ?_; rintro e w' ⟨rfl, rfl⟩)
                go_meet
                case rel => exact ⟨2, W, 1000000000000, rfl, by go_num, ⟨HK.out, HZ.out, HL.out _ _ HK.out, by omega⟩, .inr ⟨by decide, rfl⟩, rfl⟩
              · have HZ := Lib.hid (show zeroB ((L s).drop i) = false by rw [HZZ.out]; simp [w1])
                have hc48 := HC48.out
                have w1i : ¬ (1 < (i : Int) + W - i) := by omega
                cases Z
                · go_wp2_with (go_at_call 102; refine (HR2.out _).mono ?_; rintro e w' ⟨rfl, rfl⟩)
                  go_meet
                  case rel => exact ⟨2, W, 1000000000000, rfl, by go_num, ⟨HK.out, HZ.out, HL.out _ _ HK.out, by omega⟩, .inr ⟨by decide, rfl⟩, rfl⟩
                · go_wp2_with (go_at_call 102; refine (HR2.out _).mono ?_; rintro e w' ⟨rfl, rfl⟩)
                  go_meet
                  case rel => exact ⟨2, W, 1000000000000, rfl, by go_num, ⟨HK.out, HZ.out, HL.out _ _ HK.out, by omega⟩, .inr ⟨by decide, rfl⟩, rfl⟩
      · have hli : ¬ ((i : Int) + W < s.size) := by omega
        have HK := Lib.hid (show lxKL ((L s).drop i) = (2, W) by rw [HKL.out, List.getElem?_eq_none (by rw [L_length]; omega)]; rfl)
        rcases (show (1 < W ∧ Z = true) ∨ (1 < W ∧ Z = false) ∨ ¬ 1 < W by cases Z <;> simp <;> omega) with ⟨w1, rfl⟩ | ⟨w1, rfl⟩ | w1
        · have HR := Lib.hid (HZ1.out (by rw [HZZ.out]; simp [w1]))
          have hc48 := HC48.out
          have w1i : 1 < (i : Int) + W - i := by omega
          go_wp2_with (go_at_call 102; refine (HR2.out _).mono ?_; rintro e w' ⟨rfl, rfl⟩)
          refine bodyPost_ret (v := .tuple #[.agg #[.int .i64 0, .string ⟨#[]⟩, .int .i64 0, .int .i64 0], .int .i64 0, .int .i64 2]) (by simp [results, Tryd.results78, go_sem]) rfl ?_
          unfold rPost
          rw [HR.out]
          exact ⟨0, ⟨#[]⟩, 0, 0, 0, rfl, fun h => absurd h (by decide), ((Kept.refl _).alloc _).alloc _⟩
        · have HZ := Lib.hid (show zeroB ((L s).drop i) = false by rw [HZZ.out]; simp [w1])
          have hc48 := HC48.out
          go_wp2_with (go_at_call 102; refine (HR2.out _).mono ?_; rintro e w' ⟨rfl, rfl⟩)
          go_meet
          case rel => exact ⟨2, W, 1000000000000, rfl, by go_num, ⟨HK.out, HZ.out, HL.out _ _ HK.out, by omega⟩, .inr ⟨by decide, rfl⟩, rfl⟩
        · have HZ := Lib.hid (show zeroB ((L s).drop i) = false by rw [HZZ.out]; simp [w1])
          have hc48 := HC48.out
          have w1i : ¬ (1 < (i : Int) + W - i) := by omega
          cases Z
          · go_wp2_with (go_at_call 102; refine (HR2.out _).mono ?_; rintro e w' ⟨rfl, rfl⟩)
            go_meet
            case rel => exact ⟨2, W, 1000000000000, rfl, by go_num, ⟨HK.out, HZ.out, HL.out _ _ HK.out, by omega⟩, .inr ⟨by decide, rfl⟩, rfl⟩
          · go_wp2_with (go_at_call 102; refine (HR2.out _).mono ?_; rintro e w' ⟨rfl, rfl⟩)
            go_meet
            case rel => exact ⟨2, W, 1000000000000, rfl, by go_num, ⟨HK.out, HZ.out, HL.out _ _ HK.out, by omega⟩, .inr ⟨by decide, rfl⟩, rfl⟩
    · go_wp2_with fail
      go_meet
      case rel => exact ⟨5, 10, 1000000000000, rfl, rfl, ⟨HKL.out, by rw [HZZ.out]; rfl, HL.out _ _ HKL.out, by decide⟩, by first | exact .inl ⟨rfl, rfl⟩ | simp, rfl⟩
  case rest =>
    obtain ⟨K, N, most, rfl, rfl, hkn, hK, rfl⟩ := hcut
    clear HKL HZZ HC48 HL HR2 HZ1 hW1 hWl hF HHd
    have hN : N ≤ s.size - i := by have := hkn.2.2.1; rwa [List.length_drop, L_length] at this
    have hN1 := hkn.2.2.2
    have hxz : (s.extract i (i + N)).size = N := by rw [ByteArray.size_extract]; omega
    have HT := Lib.hid (ext_mid s i N).symm
    have hgg : gluedAt ((L s).drop i)[N]? = gluedAt (L s)[i + N]? := by rw [List.getElem?_drop]
    have hNi : (i : Int) + N ≤ s.size := by omega
    have hNn : i + N ≤ s.size := by omega
    have HE := Lib.hid (fun hg => lx_rglued hkn hg)
    rw [hgg] at HE
    have Wend : ∀ (D0 : Bool), ((∃ h : i + N < s.size, gluedB (s[i + N]'h) = D0) ∨ (¬ i + N < s.size ∧ D0 = false)) → gluedAt (L s)[i + N]? = D0 := by
      rintro D0 (⟨h, hb⟩ | ⟨h, hb⟩)
      · rw [L_get s _ h]; exact hb
      · rw [List.getElem?_eq_none (by rw [L_length]; omega), hb]; rfl
    have hcs : (∃ h : i + N < s.size, gluedB (s[i + N]'h) = true) ∨ (∃ h : i + N < s.size, gluedB (s[i + N]'h) = false) ∨ ¬ i + N < s.size := by
      by_cases h : i + N < s.size
      · cases hb : gluedB (s[i + N]'h)
        · exact .inr (.inl ⟨h, hb⟩)
        · exact .inl ⟨h, hb⟩
      · exact .inr (.inr h)
    rcases hcs with ⟨hlt, hb⟩ | hno
    · have HR := Lib.hid (HE.out (Wend true (.inl ⟨hlt, hb⟩)))
      have hlti : (i : Int) + N < s.size := by omega
      clear Wend hgg hkn hK
      go_wp2_with (go_at_call 104; refine (rglued_any _ _).mono ?_; rintro e w' ⟨rfl, rfl⟩)
      refine bodyPost_ret (v := .tuple #[.agg #[.int .i64 0, .string ⟨#[]⟩, .int .i64 0, .int .i64 0], .int .i64 0, .int .i64 2]) (by simp [results, Tryd.results78, go_sem]) rfl ?_
      unfold rPost
      rw [HR.out]
      exact ⟨0, ⟨#[]⟩, 0, 0, 0, rfl, fun h => absurd h (by decide), ((Kept.refl _).alloc _).alloc _⟩
    · have hgf : gluedAt ((L s).drop i)[N]? = false := by
        rw [hgg]
        refine Wend false ?_
        rcases hno with ⟨h, hb⟩ | h
        · exact .inl ⟨h, hb⟩
        · exact .inr ⟨h, rfl⟩
      clear HE Wend hgg
      rcases hK with ⟨rfl, hD⟩ | ⟨hK5, rfl⟩
      · have hdd := HDD.out
        rw [hD] at hdd
        obtain ⟨⟨d, c⟩, hp⟩ : ∃ p, dparS (bs (((L s).drop i).take N)) = p := ⟨_, rfl⟩
        have hr := lx_rdate hkn hdd hgf hp
        have hp2 : dparS (s.extract i (i + N)) = (d, c) := by rw [← hp, ← ext_mid, bs_L]
        have HPP := Lib.hid (fun w => rparse_is hp2 w)
        rw [← ext_mid] at hr
        have HR := Lib.hid hr
        clear hp hp2 hr hdd hgf hkn hD
        rcases hno with ⟨hlt, hb⟩ | hlt
        · have hlti : (i : Int) + N < s.size := by omega
          go_wp2_with (first
            | (go_at_call 104; refine (rglued_any _ _).mono ?_; rintro e w' ⟨rfl, rfl⟩)
            | (go_at_call 105; refine (HPP.out _).mono ?_; rintro e w' ⟨rfl, k1⟩; have B := k1.blk2; have b0 := B.1.cell; have b1 := B.2.cell; have l0 := B.1.lt; have l1 := B.2.lt; have f0 := B.1.frozen; have f1 := B.2.frozen))
          refine bodyPost_ret (v := .tuple #[.agg #[.int .i64 5, .string (s.extract i (i + N)), .int .i64 d, .int .i64 i], .int .i64 ((i : Int) + N), .int .i64 c]) (by simp [results, Tryd.results78, go_sem, b0]) rfl ?_
          unfold rPost
          rw [HR.out.1]
          refine ⟨_, _, _, _, _, rfl, fun h => ?_, ?_⟩
          · rw [HR.out.2 h]
            exact ⟨rfl, (bs_L _).symm, rfl, rfl, rfl⟩
          · repeat refine Kept.setCell ?_ (by simp only; omega) _
            exact (((Kept.refl _).alloc _).alloc _).trans k1
        · have hlti : ¬ ((i : Int) + N < s.size) := by omega
          go_wp2_with (go_at_call 105; refine (HPP.out _).mono ?_; rintro e w' ⟨rfl, k1⟩; have B := k1.blk2; have b0 := B.1.cell; have b1 := B.2.cell; have l0 := B.1.lt; have l1 := B.2.lt; have f0 := B.1.frozen; have f1 := B.2.frozen)
          refine bodyPost_ret (v := .tuple #[.agg #[.int .i64 5, .string (s.extract i (i + N)), .int .i64 d, .int .i64 i], .int .i64 ((i : Int) + N), .int .i64 c]) (by simp [results, Tryd.results78, go_sem, b0]) rfl ?_
          unfold rPost
          rw [HR.out.1]
          refine ⟨_, _, _, _, _, rfl, fun h => ?_, ?_⟩
          · rw [HR.out.2 h]
            exact ⟨rfl, (bs_L _).symm, rfl, rfl, rfl⟩
          · repeat refine Kept.setCell ?_ (by simp only; omega) _
            exact (((Kept.refl _).alloc _).alloc _).trans k1
      · have hr := lx_rnum hkn hK5 hgf
        have hm0 : 0 ≤ mostK K ∧ mostK K ≤ 1000000000000000 := by
          unfold mostK
          split
          · omega
          · split <;> omega
        have hdt : digsN (((L s).drop i).take N) = digsN (L (s.extract i (i + N))) := by rw [← ext_mid]
        rw [← ext_mid] at hr
        have HAM := Lib.hid (fun w => ramount_any (s.extract i (i + N)) (mostK K) (by omega) hm0.1 hm0.2 w)
        have hK5b : (K == 5) = false := by rw [beq_eq_false_iff_ne]; exact hK5
        have hdb : (digsN (L (s.extract i (i + N))) : Int) ≤ mostK K → amtS (L (s.extract i (i + N))) (mostK K) = (digsN (L (s.extract i (i + N))) : Nat) := fun h => by rw [amtS, if_neg (by omega)]
        have hda : mostK K < (digsN (L (s.extract i (i + N))) : Int) → amtS (L (s.extract i (i + N))) (mostK K) = mostK K + 1 := fun h => by rw [amtS, if_pos h]
        clear hdt hgf hkn hK5
        generalize digsN (L (s.extract i (i + N))) = dn at *
        generalize amtS (L (s.extract i (i + N))) (mostK K) = am at *
        generalize mostK K = M at *
        obtain ⟨m0, m1⟩ := hm0
        rcases hr with ⟨h1, h2⟩ | ⟨h1, h2⟩
        · have ha := hda h1
          clear hda hdb
          subst ha
          have HR := Lib.hid h2
          clear h2
          rcases hno with ⟨hlt, hb⟩ | hlt
          all_goals
            first
              | have hlti : (i : Int) + N < s.size := by omega
              | have hlti : ¬ ((i : Int) + N < s.size) := by omega
            go_wp2_with (first
              | (go_at_call 104; refine (rglued_any _ _).mono ?_; rintro e w' ⟨rfl, rfl⟩)
              | (go_at_call 106; refine (HAM.out _).mono ?_; rintro e w' ⟨rfl, rfl⟩))
            refine bodyPost_ret (v := .tuple #[.agg #[.int .i64 0, .string ⟨#[]⟩, .int .i64 0, .int .i64 0], .int .i64 0, .int .i64 3]) (by simp [results, Tryd.results78, go_sem]) rfl ?_
            unfold rPost
            rw [HR.out]
            exact ⟨0, ⟨#[]⟩, 0, 0, 0, rfl, fun h => absurd h (by decide), ((Kept.refl _).alloc _).alloc _⟩
        · have ha := hdb h1
          clear hda hdb
          subst ha
          have HR := Lib.hid h2
          have h1' : ¬ (M < (dn : Int)) := by omega
          clear h2
          rcases hno with ⟨hlt, hb⟩ | hlt
          all_goals
            first
              | have hlti : (i : Int) + N < s.size := by omega
              | have hlti : ¬ ((i : Int) + N < s.size) := by omega
            go_wp2_with (first
              | (go_at_call 104; refine (rglued_any _ _).mono ?_; rintro e w' ⟨rfl, rfl⟩)
              | (go_at_call 106; refine (HAM.out _).mono ?_; rintro e w' ⟨rfl, rfl⟩))
            refine bodyPost_ret (v := .tuple #[.agg #[.int .i64 K, .string (s.extract i (i + N)), .int .i64 dn, .int .i64 i], .int .i64 ((i : Int) + N), .int .i64 0]) (by simp [results, Tryd.results78, go_sem]) rfl ?_
            unfold rPost
            rw [HR.out]
            exact ⟨_, _, _, _, _, rfl, fun h => ⟨rfl, (bs_L _).symm, rfl, rfl, rfl⟩, ((Kept.refl _).alloc _).alloc _⟩
end Go.Proofs.YtmlkgfacenajnaaDoor
