/- What numtext.FormatFixed computes. -/
import Derived.Test.YtdnjfpmngnkcfaaGreatDoorNum
import Derived.Test.YtdnjfpmngnkcfaaGreatDoorParse
import Derived.Test.YtdnjfpmngnkcfaaGreatDoorRefParse
import Derived.Test.YtdnjfpmngnkcfaaGreatDoorDateE
namespace Go.Proofs.YtdnjfpmngnkcfaaGreatDoor
open Go.RowKit

def absD (n : Int) : List UInt8 := Lib.decDigits n.natAbs
def sgn (n : Int) : List UInt8 := if n < 0 then [45] else []
def padD (n : Int) (q : Nat) : List UInt8 := List.replicate (q + 1 - (absD n).length) 48 ++ absD n
def fixT (n : Int) (q : Nat) : List UInt8 := sgn n ++ ((padD n q).take ((padD n q).length - q) ++ ([46] ++ (padD n q).drop ((padD n q).length - q)))
/-- the text of a number with q places -/
def fixS (n q : Int) : ByteArray := if q = 0 then numS n else bs (fixT n q.toNat)
theorem absD_len (n : Int) (h0 : -9223372036854775808 ≤ n) (h1 : n ≤ 9223372036854775807) : (absD n).length ≤ 20 := decDigits_len _ (by omega)
theorem numS_neg {n : Int} (h : n < 0) : numS n = bs (45 :: absD n) := by rw [numS, Lib.itoa, if_pos h]; rfl
theorem numS_pos {n : Int} (h : ¬ n < 0) : numS n = bs (absD n) := by rw [numS, Lib.itoa, if_neg h, absD, show n.natAbs = n.toNat by omega]
theorem fix_end (n : Int) (q k : Nat) (T : ByteArray) (hT : L T = padD n q) (hk : T.size = k + q) (g : ByteArray) (hg : L g = sgn n) :
    g ++ T.extract 0 k ++ ⟨#[46]⟩ ++ T.extract k T.size = bs (fixT n q) := by
  have hl : (padD n q).length = k + q := by rw [← hT, L_length, hk]
  rw [← L_inj, L_append, L_append, L_append, L_extract, L_extract, L_bs, hg, hT, fixT, hl, Nat.add_sub_cancel, List.drop_zero, Nat.sub_zero]
  rw [List.take_of_length_le (l := (padD n q).drop k) (by rw [List.length_drop, hl, hk]; omega)]
  simp [L]

set_option maxRecDepth 100000 in
set_option maxHeartbeats 4000000 in
theorem formatFixed_zero (n p : Int) (hq : max 0 (min p 9) = 0) (h0 : -9223372036854775808 ≤ n) (h1 : n ≤ 9223372036854775807) (w : World) (hP : Pow w) :
    Calls Tryz.prog 56 #[.int .i64 n, .int .i64 p] w fun e w' => e = .returned (.string (numS n)) ∧ Kept w w' := by
  have HQ := Lib.hid (fun w => (hq ▸ clamp_any p w : Calls Tryz.prog 70 #[.int .i64 p] w fun e w' => e = .returned (.int .i64 0) ∧ w = w'))
  clear hq
  go_enter Tryz.func56, Tryz.ntmps56
  go_wp2_with (first
    | (go_at_call 70; refine (HQ.out _).mono ?_; rintro e w' ⟨rfl, rfl⟩)
    | (go_at_call 55; refine (fmtInt_any n h0 h1 _ hP).mono ?_; rintro e w' ⟨rfl, hk⟩))
  go_ret
  exact ⟨rfl, hk⟩

set_option maxRecDepth 100000 in
set_option maxHeartbeats 4000000 in
theorem formatFixed_pos (n p q : Int) (hq : max 0 (min p 9) = q) (q1 : 1 ≤ q) (h0 : -9223372036854775808 ≤ n) (h1 : n ≤ 9223372036854775807) (w : World) (hP : Pow w) :
    Calls Tryz.prog 56 #[.int .i64 n, .int .i64 p] w fun e w' => e = .returned (.string (bs (fixT n q.toNat))) ∧ Kept w w' := by
  have q9 : q ≤ 9 := by omega
  have HQ := Lib.hid (fun w => (hq ▸ clamp_any p w : Calls Tryz.prog 70 #[.int .i64 p] w fun e w' => e = .returned (.int .i64 q) ∧ w = w'))
  clear hq
  have HF := Lib.hid (fun w hP => fmtInt_any n h0 h1 w hP)
  have hl := absD_len n h0 h1
  have hp : 0 < (absD n).length := List.length_pos_iff.2 (decDigits_ne _)
  obtain ⟨X, hX⟩ : ∃ X, X = bs (absD n) := ⟨_, rfl⟩
  have zX : X.size = (absD n).length := by rw [hX, bs_size]
  have HX := Lib.hid (show L X = absD n by rw [hX]; rfl)
  by_cases hlt : (absD n).length ≤ q.toNat
  · have HZ := Lib.hid (fun w => zeros_any (q + 1 - X.size) (by omega) (by omega) w)
    obtain ⟨Z, hZ⟩ : ∃ Z, Z = bs (List.replicate (q + 1 - (X.size : Int)).toNat 48) := ⟨_, rfl⟩
    have zZ : Z.size = q.toNat + 1 - X.size := by rw [hZ, bs_size, List.length_replicate]; omega
    obtain ⟨T, hT⟩ : ∃ T, Z ++ X = T := ⟨_, rfl⟩
    have zT : T.size = 1 + q.toNat := by rw [← hT, ByteArray.size_append]; omega
    have HT := Lib.hid (show L T = padD n q.toNat by
      rw [← hT, L_append, HX.out, hZ, L_bs, padD, show (q + 1 - (X.size : Int)).toNat = q.toNat + 1 - (absD n).length by omega])
    have zX' : (X.size : Int) ≤ q := by omega
    have zX2 : X.size ≤ 9 := by omega
    have zZ2 : Z.size ≤ 10 := by omega
    have hd1 : (1 : Int) ≤ T.size := by omega
    have hK' : (Z.size : Int) + X.size - q = 1 := by omega
    have m1 : ¬ (9223372036854775807 < 1 + (T.extract 0 1).size) := by rw [ext_size01 T 0 1 (by omega)]; omega
    have m2 : ¬ (9223372036854775807 < 1 + (T.extract 0 1).size + 1) := by rw [ext_size01 T 0 1 (by omega)]; omega
    have m3 : ¬ (9223372036854775807 < 1 + (T.extract 0 1).size + 1 + (T.extract 1 T.size).size) := by rw [ext_size01 T 0 1 (by omega), ext_size01 T 1 T.size (Nat.le_refl _)]; omega
    by_cases hn : n < 0
    · have hN := numS_neg hn
      have zN : (numS n).size = X.size + 1 := by rw [hN, bs_size, zX]; rfl
      have hE : (numS n).extract 1 (X.size + 1) = X := by
        rw [← zN, ← L_inj, L_extract, HX.out, hN, L_bs, bs_size]; simp
      have HE := Lib.hid (fix_end n q.toNat 1 T HT.out zT ⟨#[45]⟩ (by rw [sgn, if_pos hn]; rfl))
      rw [← hZ] at HZ
      have zTq : (T.size : Int) - q = 1 := by omega
      have zT2 : T.size ≤ 20 := by omega
      clear hN hX zX hZ hl hp zZ zT hK'
      generalize numS n = N at *
      go_enter Tryz.func56, Tryz.ntmps56
      go_wp2_with (first
        | (go_at_call 70; refine (HQ.out _).mono ?_; rintro e w' ⟨rfl, rfl⟩)
        | (go_at_call 55; refine (HF.out _ hP).mono ?_; rintro e w' ⟨rfl, hk⟩)
        | (go_at_call 71; refine (HZ.out _).mono ?_; rintro e w2 ⟨rfl, hk2⟩))
      have hkk := hk.trans hk2
      clear zX2 zZ2 zN
      refine wp_region_kept (by kernel_rfl) (by kernel_rfl) ?_
      repeat (go_big_quiet_step (fail))
      refine wpQuiet_nil ?_
      rintro _ ⟨⟨wx, hx⟩, rfl⟩
      go_wp2_with fail
      go_ret
      exact ⟨ret_str HE.out, hkk.trans hx⟩
    · have hNX : numS n = X := (numS_pos hn).trans hX.symm
      have HE := Lib.hid (fix_end n q.toNat 1 T HT.out zT ⟨#[]⟩ (by rw [sgn, if_neg hn]; rfl))
      rw [← hZ] at HZ
      have zTq : (T.size : Int) - q = 1 := by omega
      have zT2 : T.size ≤ 20 := by omega
      have m0 : ¬ (9223372036854775807 < (T.extract 0 1).size) := by omega
      have m4 : ¬ (9223372036854775807 < (T.extract 0 1).size + 1) := by omega
      have m5 : ¬ (9223372036854775807 < (T.extract 0 1).size + 1 + (T.extract 1 T.size).size) := by omega
      clear hX zX hZ hl hp zZ zT hK' m1 m2 m3
      go_enter Tryz.func56, Tryz.ntmps56
      go_wp2_with (first
        | (go_at_call 70; refine (HQ.out _).mono ?_; rintro e w' ⟨rfl, rfl⟩)
        | (go_at_call 55; refine (HF.out _ hP).mono ?_; rintro e w' ⟨rfl, hk⟩; rw [hNX])
        | (go_at_call 71; refine (HZ.out _).mono ?_; rintro e w2 ⟨rfl, hk2⟩))
      have hkk := hk.trans hk2
      clear zX2 zZ2
      refine wp_region_kept (by kernel_rfl) (by kernel_rfl) ?_
      repeat (go_big_quiet_step (fail))
      refine wpQuiet_nil ?_
      rintro _ ⟨⟨wx, hx⟩, rfl⟩
      go_wp2_with fail
      go_ret
      exact ⟨ret_str HE.out, hkk.trans hx⟩
  · obtain ⟨k, hK⟩ : ∃ k : Nat, (X.size : Int) - q = (k : Int) := ⟨((X.size : Int) - q).toNat, by omega⟩
    have HT := Lib.hid (show L X = padD n q.toNat by
      rw [HX.out, padD, show q.toNat + 1 - (absD n).length = 0 by omega]; rfl)
    have zT : X.size = k + q.toNat := by omega
    have zX' : ¬ ((X.size : Int) ≤ q) := by omega
    have zX2 : X.size ≤ 20 := by omega
    have hd1 : (k : Int) ≤ X.size := by omega
    have f1 := ext_size01 X 0 k (by omega)
    have f2 := ext_size01 X k X.size (Nat.le_refl _)
    obtain ⟨P, hPx⟩ : ∃ P, X.extract 0 k = P := ⟨_, rfl⟩
    obtain ⟨R, hRx⟩ : ∃ R, X.extract k X.size = R := ⟨_, rfl⟩
    rw [hPx] at f1
    rw [hRx] at f2
    have m0 : ¬ (9223372036854775807 < P.size) := by omega
    have m4 : ¬ (9223372036854775807 < P.size + 1) := by omega
    have m5 : ¬ (9223372036854775807 < P.size + 1 + R.size) := by omega
    have m1 : ¬ (9223372036854775807 < 1 + P.size) := by omega
    have m2 : ¬ (9223372036854775807 < 1 + P.size + 1) := by omega
    have m3 : ¬ (9223372036854775807 < 1 + P.size + 1 + R.size) := by omega
    clear f1 f2
    by_cases hn : n < 0
    · have hN := numS_neg hn
      have zN : (numS n).size = X.size + 1 := by rw [hN, bs_size, zX]; rfl
      have hE : (numS n).extract 1 (X.size + 1) = X := by
        rw [← zN, ← L_inj, L_extract, HX.out, hN, L_bs, bs_size]; simp
      have he := fix_end n q.toNat k X HT.out zT ⟨#[45]⟩ (by rw [sgn, if_pos hn]; rfl)
      rw [hPx, hRx] at he
      have HE := Lib.hid he
      clear he
      clear hN hX zX hl hp zT hlt
      generalize numS n = N at *
      go_enter Tryz.func56, Tryz.ntmps56
      go_wp2_with (first
        | (go_at_call 70; refine (HQ.out _).mono ?_; rintro e w' ⟨rfl, rfl⟩)
        | (go_at_call 55; refine (HF.out _ hP).mono ?_; rintro e w' ⟨rfl, hk⟩))
      have hkk := hk
      clear zX2 zN
      refine wp_region_kept (by kernel_rfl) (by kernel_rfl) ?_
      repeat (go_big_quiet_step (fail))
      refine wpQuiet_nil ?_
      rintro _ ⟨⟨wx, hx⟩, rfl⟩
      go_wp2_with fail
      go_ret
      exact ⟨ret_str HE.out, hkk.trans hx⟩
    · have hNX : numS n = X := (numS_pos hn).trans hX.symm
      have he := fix_end n q.toNat k X HT.out zT ⟨#[]⟩ (by rw [sgn, if_neg hn]; rfl)
      rw [hPx, hRx] at he
      have HE := Lib.hid he
      clear he
      clear hX zX hl hp zT hlt m1 m2 m3
      go_enter Tryz.func56, Tryz.ntmps56
      go_wp2_with (first
        | (go_at_call 70; refine (HQ.out _).mono ?_; rintro e w' ⟨rfl, rfl⟩)
        | (go_at_call 55; refine (HF.out _ hP).mono ?_; rintro e w' ⟨rfl, hk⟩; rw [hNX]))
      have hkk := hk
      clear zX2
      refine wp_region_kept (by kernel_rfl) (by kernel_rfl) ?_
      repeat (go_big_quiet_step (fail))
      refine wpQuiet_nil ?_
      rintro _ ⟨⟨wx, hx⟩, rfl⟩
      go_wp2_with fail
      go_ret
      exact ⟨ret_str HE.out, hkk.trans hx⟩

theorem formatFixed_any (n p : Int) (h0 : -9223372036854775808 ≤ n) (h1 : n ≤ 9223372036854775807) (w : World) (hP : Pow w) :
    Calls Tryz.prog 56 #[.int .i64 n, .int .i64 p] w fun e w' => e = .returned (.string (fixS n (max 0 (min p 9)))) ∧ Kept w w' := by
  by_cases h : max 0 (min p 9) = 0
  · rw [fixS, if_pos h]; exact formatFixed_zero n p h h0 h1 w hP
  · rw [fixS, if_neg h]; exact formatFixed_pos n p _ rfl (by omega) h0 h1 w hP
end Go.Proofs.YtdnjfpmngnkcfaaGreatDoor
