/- The fixed examples of the chapter on months: awake returns true. -/
import Derived.Test.YtmlkgfacenajnaaDoorMonthO
import Derived.Test.YtmlkgfacenajnaaDoorMonthP
import Derived.Test.YtmlkgfacenajnaaDoorMonthF
import Derived.Test.YtmlkgfacenajnaaDoorFrameL
import Derived.Stop.LaidErr
namespace Go.Proofs.YtmlkgfacenajnaaDoor
open Go.ChangeShapes Go.WideShapes Go.ChangeAt Go.RowKit Go.Joins

/-- what the rows of the chapter say of the listed tables -/
theorem env7 {W : World} (h : laidMetH Tryd.prog Rows.monthRangesRow.laid W) : Mon W ∧ Pow W := by
  have h0 : laidMet Tryd.prog Rows.monthRangesRow.laid W := h
  have h3 := h0.tail.tail
  have h4 := h3.tail
  have t3 : Lib.TabIs Tryd.prog W "internal/strconv.uint64pow10" .u64 Lib.pow10Tab :=
    Lib.tabIs_of_head (g := 2) (t := 126) (e := 91) (n := 20) (by kernel_rfl) (by kernel_rfl) (by kernel_rfl) (by kernel_rfl) (by kernel_rfl) (by kernel_rfl) h3
  have t4 : Lib.TabIs Tryd.prog W "guerdon/date.monthLengths" .i64 mlens :=
    Lib.tabIs_of_head (g := 0) (t := 88) (e := 3) (n := 12) (by kernel_rfl) (by kernel_rfl) (by kernel_rfl) (by kernel_rfl) (by kernel_rfl) (by kernel_rfl) h4
  refine ⟨fun i hi => ?_, t3⟩
  exact t4.cell (g := 0) (by kernel_rfl) i hi

theorem toS_07 : toS 45349 = (2024, 2, 29) := toS_eq (by decide) (by decide)
theorem fromD_07 : fromD 45349 = 1489 := by rw [fromD_yes (by decide), toS_07]; rfl
theorem fromD_07b : fromD (-1) = -1 := fromD_no (by decide)
theorem itoa_of7 {l : List UInt8} {n : Int} (h : (val l 0 : Int) = n) (hd : l.all isDig = true) (hl : lead l = true) (hn : l ≠ []) : Lib.itoa n = l := by
  rw [Lib.itoa, if_neg (by omega), show n.toNat = val l 0 by omega, decDigits_val l hd hl hn]
theorem padS_of7 {l : List UInt8} {n k : Int} (h : (val l 0 : Int) = n) (hd : l.all isDig = true) (hl : lead l = true) (hn : l ≠ []) : padS n k = bs (List.replicate (k.toNat - l.length) 48 ++ l) := by
  rw [padS, numS, itoa_of7 h hd hl hn, bs_size]
theorem monthS_07 : monthS 1489 = ⟨#[50, 48, 50, 52, 45, 48, 50]⟩ := by
  rw [monthS_yes (by decide)]
  rw [show mY 1489 = 2024 from by decide, show mM 1489 = 2 from by decide, padS_of7 (l := [50, 48, 50, 52]) (by decide) (by decide) (by decide) (by decide), padS_of7 (l := [50]) (by decide) (by decide) (by decide) (by decide)]
  rfl
theorem mparS_07 : mparS ⟨#[50, 48, 50, 52, 45, 48, 50]⟩ = (1489, 0) := by
  rw [← monthS_07]; exact mparS_monthS (by decide)
theorem rgS_07 : rgS 1490 = (45350, 45381, 0) := by decide
theorem daysM_07 : daysM 1489 = 29 := by decide
theorem ovS_07 : ovS 1489 45347 45355 = 3 := by decide
theorem payS_07 : payS 96 [] 1490 31 = (45378, 0) := by
  unfold payS
  rw [if_pos (by decide), if_pos (by decide), show (firstM 1490 + min 31 (daysM 1490)).toNat = 45381 from by decide]
  rw [show (45381 : Nat) = 45380 + 1 from rfl, down_no (by decide), show (45380 : Nat) = 45379 + 1 from rfl, down_no (by decide), show (45379 : Nat) = 45378 + 1 from rfl, down_hit (by decide)]
  rfl
theorem Ints.none (w : World) : Ints w none 0 [] := ⟨rfl, fun h => absurd h (by decide)⟩

set_option maxRecDepth 100000 in
set_option maxHeartbeats 4000000 in
theorem awake07_any (w : World) (hM : Mon w) (hP : Pow w) :
    Calls Tryd.prog 30 #[] w fun e w' => e = .returned (.bool true) ∧ Kept w w' := by
  go_enter Tryd.func30, Tryd.ntmps30
  go_wp2_with fail
  refine (mparse_any _ _).mono ?_
  rintro e w1 ⟨rfl, k1⟩
  rw [mparS_07]
  go_wp2_with fail
  refine (payDate_any 96 none 0 0 [] _ (Ints.none _) (by decide) (hM.kept k1) _ _).mono ?_
  rintro e w2 ⟨rfl, k2⟩
  rw [payS_07]
  go_wp2_with fail
  refine (mrange_any _ _ ((hM.kept k1).kept k2)).mono ?_
  rintro e w3 ⟨rfl, k3⟩
  rw [rgS_07]
  have hK3 := (k1.trans k2).trans k3
  go_wp2_with fail
  refine (mformat_any _ _ (((hP.kept hK3)).kept ((Kept.refl _).alloc _))).mono ?_
  rintro e w4 ⟨rfl, k4⟩
  rw [monthS_07]
  have B := k4.blk1
  have b := B.cell
  have l := B.lt
  have hM4 := hM.kept ((hK3.alloc _).trans k4)
  go_wp2_with (first
    | (go_at_call 26; refine (mdays_any _ _ hM4).mono ?_; rintro e w5 ⟨rfl, rfl⟩; rw [daysM_07])
    | (go_at_call 24; refine (mfromDate_any _ _ hM4).mono ?_; rintro e w5 ⟨rfl, rfl⟩; simp only [fromD_07, fromD_07b])
    | (go_at_call 28; refine (overlap_any 1489 45347 45355 _ hM4).mono ?_; rintro e w5 ⟨rfl, k5⟩; rw [ovS_07]))
  go_ret
  exact ⟨rfl, (hK3.alloc _).trans (k4.trans k5)⟩
end Go.Proofs.YtmlkgfacenajnaaDoor
