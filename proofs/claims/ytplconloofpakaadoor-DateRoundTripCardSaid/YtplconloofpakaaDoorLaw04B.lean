/- The walks of the laws of the chapter on dates: each returns true and leaves old memory alone. -/
import Derived.Test.YtplconloofpakaaDoorLaw04A
import Derived.Test.YtplconloofpakaaDoorFrameL
import Derived.Stop.LaidErr
namespace Go.Proofs.YtplconloofpakaaDoor
open Go.ChangeShapes Go.WideShapes Go.ChangeAt Go.RowKit Go.Joins

/-- what the rows of the chapter say of the listed tables -/
theorem env4 {W : World} (h : laidMetH Tryd.prog Rows.dateFieldsRow.laid W) : Mon W ∧ Pow W := by
  have h0 : laidMet Tryd.prog Rows.dateFieldsRow.laid W := h
  have h3 := h0.tail.tail
  have h4 := h3.tail
  have t3 : Lib.TabIs Tryd.prog W "internal/strconv.uint64pow10" .u64 Lib.pow10Tab :=
    Lib.tabIs_of_head (g := 1) (t := 91) (e := 56) (n := 20) (by kernel_rfl) (by kernel_rfl) (by kernel_rfl) (by kernel_rfl) (by kernel_rfl) (by kernel_rfl) h3
  have t4 : Lib.TabIs Tryd.prog W "guerdon/date.monthLengths" .i64 mlens :=
    Lib.tabIs_of_head (g := 0) (t := 48) (e := 3) (n := 12) (by kernel_rfl) (by kernel_rfl) (by kernel_rfl) (by kernel_rfl) (by kernel_rfl) (by kernel_rfl) h4
  refine ⟨fun i hi => ?_, t3⟩
  exact t4.cell (g := 0) (by kernel_rfl) i hi

set_option maxRecDepth 100000 in
set_option maxHeartbeats 4000000 in
theorem lawFields (y m d n : Int) (w : World) (hM : Mon w) (hP : Pow w) :
    Calls Tryd.prog 3 #[.int .i64 y, .int .i64 m, .int .i64 d, .int .i64 n] w (LawPost w) := by
  generalize hr : fromS y m d = r
  obtain ⟨r1, r2⟩ := r
  generalize ht : toS n = t
  obtain ⟨t1, t2, t3⟩ := t
  unfold LawPost
  go_enter Tryd.func3, Tryd.ntmps3
  go_wp2_with (first
    | (go_at_call 14; refine (fromYMD_any _ _ _ _ hM).mono ?_; rintro e w' ⟨rfl, rfl⟩; rw [hr]; dsimp only)
    | (go_at_call 15; refine (rfromYMD_any _ _ _ _).mono ?_; rintro e w' ⟨rfl, rfl⟩; rw [hr]; dsimp only)
    | (go_at_call 16; refine (toYMD_any _ _ hM).mono ?_; rintro e w' ⟨rfl, rfl⟩; rw [ht]; dsimp only)
    | (go_at_call 17; refine (rtoYMD_any _ _).mono ?_; rintro e w' ⟨rfl, rfl⟩; rw [ht]; dsimp only)
    | (go_at_call 18; refine (leap_any _ _).mono ?_; rintro e w' ⟨rfl, rfl⟩)
    | (go_at_call 19; refine (rleap_any _ _).mono ?_; rintro e w' ⟨rfl, rfl⟩)
    | (go_at_call 20; refine (dim_any _ _ _ hM).mono ?_; rintro e w' ⟨rfl, rfl⟩)
    | (go_at_call 21; refine (rdim_any _ _ _).mono ?_; rintro e w' ⟨rfl, rfl⟩)
    | (go_at_call 22; refine (awake04_any _ hM hP).mono ?_; rintro e w' ⟨rfl, hk⟩))
  go_ret
  exact ⟨rfl, hk⟩

set_option maxRecDepth 100000 in
set_option maxHeartbeats 4000000 in
theorem lawMonths (a b n : Int) (w : World) (hM : Mon w) (hP : Pow w) :
    Calls Tryd.prog 4 #[.int .i64 a, .int .i64 b, .int .i64 n] w (LawPost w) := by
  generalize hr : addM a n = r
  obtain ⟨r1, r2⟩ := r
  unfold LawPost
  go_enter Tryd.func4, Tryd.ntmps4
  go_wp2_with (first
    | (go_at_call 23; refine (addMonths_any _ _ _ hM).mono ?_; rintro e w' ⟨rfl, rfl⟩; rw [hr]; dsimp only)
    | (go_at_call 24; refine (raddMonths_any _ _ _).mono ?_; rintro e w' ⟨rfl, rfl⟩; rw [hr]; dsimp only)
    | (go_at_call 25; refine (weekday_any _ _).mono ?_; rintro e w' ⟨rfl, rfl⟩)
    | (go_at_call 26; refine (rweekday_any _ _).mono ?_; rintro e w' ⟨rfl, rfl⟩)
    | (go_at_call 27; refine (years_any _ _ _ hM).mono ?_; rintro e w' ⟨rfl, rfl⟩)
    | (go_at_call 28; refine (ryears_any _ _ _).mono ?_; rintro e w' ⟨rfl, rfl⟩)
    | (go_at_call 22; refine (awake04_any _ hM hP).mono ?_; rintro e w' ⟨rfl, hk⟩))
  go_ret
  exact ⟨rfl, hk⟩

set_option maxRecDepth 100000 in
set_option maxHeartbeats 4000000 in
theorem lawTexts (n : Int) (s : ByteArray) (w : World) (hM : Mon w) (hP : Pow w) :
    Calls Tryd.prog 6 #[.int .i64 n, .string s] w (LawPost w) := by
  generalize hr : dparS s = r
  obtain ⟨r1, r2⟩ := r
  have hK0 := Kept.refl w
  unfold LawPost
  go_enter Tryd.func6, Tryd.ntmps6
  go_wp2_with (first
    | (go_at_call 29; refine (parse_any _ _ (hM.kept (by assumption))).mono ?_; rintro e w' ⟨rfl, hk⟩; have hK := Kept.trans (by assumption) hk; rw [hr]; dsimp only)
    | (go_at_call 30; refine (rparse_any _ _).mono ?_; rintro e w' ⟨rfl, hk⟩; have hK := Kept.trans (by assumption) hk; rw [hr]; dsimp only)
    | (go_at_call 31; refine (format_any _ _ (hM.kept (by assumption)) (hP.kept (by assumption))).mono ?_; rintro e w' ⟨rfl, hk⟩; have hK := Kept.trans (by assumption) hk)
    | (go_at_call 32; refine (rformat_any _ _).mono ?_; rintro e w' ⟨rfl, hk⟩; have hK := Kept.trans (by assumption) hk)
    | (go_at_call 22; refine (awake04_any _ (hM.kept (by assumption)) (hP.kept (by assumption))).mono ?_; rintro e w' ⟨rfl, hk⟩; have hK := Kept.trans (by assumption) hk))
  go_ret
  exact ⟨rfl, by assumption⟩
end Go.Proofs.YtplconloofpakaaDoor
