/- What the functions of package date compute: leap years, lengths of months, FromYMD, ToYMD. -/
import Derived.Test.YtdnjfpmngnkcfaaGreatDoorBase
import Derived.Test.YtdnjfpmngnkcfaaGreatDoorDateMath
namespace Go.Proofs.YtdnjfpmngnkcfaaGreatDoor
open Go.RowKit

/-- the table of the lengths of the months lies in its block -/
def Mon (w : World) : Prop := ∀ i, i < 12 → w.cell? ⟨1, i, none⟩ = some (.int .i64 (mlens[i]?.getD 0))
theorem Mon.lt {w : World} (h : Mon w) : 1 < w.heap.size := by
  have h0 := h 0 (by omega)
  rcases Nat.lt_or_ge 1 w.heap.size with hl | hg
  · exact hl
  · simp [World.cell?, Array.getElem?_eq_none hg] at h0
theorem Mon.kept {w w' : World} (h : Mon w) (hk : Kept w w') : Mon w' := fun i hi => hk.cell (p := ⟨1, i, none⟩) h.lt (h i hi)
theorem Mon.drew {w : World} (h : Mon w) : Mon w.drew := h
theorem Mon.drewN {w : World} (h : Mon w) (k : Nat) : Mon (w.drewN k) := h

set_option maxHeartbeats 400000 in
theorem leap_any (y : Int) (w : World) :
    Calls Tryz.prog 113 #[.int .i64 y] w fun e w' => e = .returned (.bool (leapB y)) ∧ w = w' := by
  go_enter Tryz.func113, Tryz.ntmps113
  go_wp2
  all_goals (go_ret; exact ⟨ret_bool (by simp_all [leapB]), rfl⟩)

set_option maxHeartbeats 400000 in
theorem dim_any (y m : Int) (w : World) (hM : Mon w) :
    Calls Tryz.prog 94 #[.int .i64 y, .int .i64 m] w fun e w' => e = .returned (.int .i64 (dimS y m)) ∧ w = w' := by
  by_cases hm : m < 1
  · go_enter Tryz.func94, Tryz.ntmps94
    go_wp2_with fail
    go_ret
    exact ⟨ret_int (by rw [dimS_out (.inl hm)]), rfl⟩
  · by_cases hm2 : 12 < m
    · go_enter Tryz.func94, Tryz.ntmps94
      go_wp2_with fail
      go_ret
      exact ⟨ret_int (by rw [dimS_out (.inr hm2)]), rfl⟩
    · have h1 : 1 ≤ m := by omega
      have h2 : m ≤ 12 := by omega
      have hc : w.cell? ⟨1, m.toNat - 1, none⟩ = some (.int .i64 (mlens[(m - 1).toNat]?.getD 0)) := by
        have := hM (m.toNat - 1) (by omega)
        rwa [show (m - 1).toNat = m.toNat - 1 from by omega]
      have hc1 := hM 1 (by omega)
      clear hM hm hm2
      cases h3 : (m == 2)
      · have h4 : m ≠ 2 := by simpa using h3
        have HR := Lib.hid (dimS_in (y := y) h1 h2 h4)
        clear h4 hc1
        go_enter Tryz.func94, Tryz.ntmps94
        go_wp2_with fail
        go_ret
        exact ⟨ret_int (by rw [HR.out, show (m - 1).toNat = m.toNat - 1 from by omega]), rfl⟩
      · obtain rfl : m = 2 := by simpa using h3
        clear hc
        have HR := Lib.hid (dimS_feb y)
        cases hl : leapB y
        all_goals
          have HL := Lib.hid (show leapI y = _ by unfold leapI; rw [hl])
          go_enter Tryz.func94, Tryz.ntmps94
          go_wp2_with (go_at_call 113; refine (leap_any _ _).mono ?_; rintro e w' ⟨rfl, rfl⟩)
          go_ret
          exact ⟨ret_int (by rw [HR.out, HL.out]; rfl), rfl⟩

set_option maxHeartbeats 400000 in
theorem leapYears_any (y : Int) (w : World) (h0 : 0 ≤ y) (h1 : y ≤ 10000) :
    Calls Tryz.prog 112 #[.int .i64 y] w fun e w' => e = .returned (.int .i64 (leapsTo y)) ∧ w = w' := by
  go_enter Tryz.func112, Tryz.ntmps112
  go_wp2
  go_ret
  exact ⟨rfl, rfl⟩
theorem leapsTo_bd (y : Int) (h0 : 0 ≤ y) (h1 : y ≤ 10000) : 0 ≤ leapsTo y ∧ leapsTo y ≤ 3000 := by unfold leapsTo; omega
set_option maxHeartbeats 400000 in
theorem ys_any (y : Int) (w : World) (h0 : 1900 ≤ y) (h1 : y ≤ 2300) :
    Calls Tryz.prog 93 #[.int .i64 y] w fun e w' => e = .returned (.int .i64 (ysS y)) ∧ w = w' := by
  have b1 := leapsTo_bd (y - 1) (by omega) (by omega)
  have b2 := leapsTo_bd 1899 (by omega) (by omega)
  go_enter Tryz.func93, Tryz.ntmps93
  go_wp2_with (go_at_call 112; refine (leapYears_any _ _ (by omega) (by omega)).mono ?_; rintro e w' ⟨rfl, rfl⟩)
  go_ret
  exact ⟨rfl, rfl⟩

theorem ymd_no {y m d : Int} (h : ymdB y m d = false) : y < 1900 ∨ (1900 ≤ y ∧ 2199 < y) ∨ (1900 ≤ y ∧ y ≤ 2199 ∧ m < 1) ∨ (1900 ≤ y ∧ y ≤ 2199 ∧ 1 ≤ m ∧ 12 < m) ∨
    (1900 ≤ y ∧ y ≤ 2199 ∧ 1 ≤ m ∧ m ≤ 12 ∧ d < 1) ∨ (1900 ≤ y ∧ y ≤ 2199 ∧ 1 ≤ m ∧ m ≤ 12 ∧ 1 ≤ d ∧ dimS y m < d) := by
  have h' : ¬ (1900 ≤ y ∧ y ≤ 2199 ∧ 1 ≤ m ∧ m ≤ 12 ∧ 1 ≤ d ∧ d ≤ dimS y m) := by rw [← ymdB_iff, h]; simp
  omega
theorem from_ret {r : Int × Int} {a b : Int} (h : r = (a, b)) : Ending.returned (.tuple #[.int .i64 a, .int .i64 b]) = .returned (.tuple #[.int .i64 r.1, .int .i64 r.2]) := by rw [h]
theorem from_end {y m d : Int} {k : Nat} (h : ymdB y m d = true) (hk : (k : Int) = m - 1) : fromS y m d = (ysS y + cumM y k + d - 1, 0) := by
  unfold fromS dayNo
  rw [if_pos h, show (m - 1).toNat = k from by omega]
set_option maxHeartbeats 400000 in
theorem fromYMD_any (y m d : Int) (w : World) (hM : Mon w) :
    Calls Tryz.prog 96 #[.int .i64 y, .int .i64 m, .int .i64 d] w fun e w' => e = .returned (.tuple #[.int .i64 (fromS y m d).1, .int .i64 (fromS y m d).2]) ∧ w = w' := by
  cases hv : ymdB y m d
  · have HR := Lib.hid (show fromS y m d = (0, 3) by unfold fromS; rw [hv]; rfl)
    have h' := ymd_no hv
    clear hv
    rcases h' with h1 | ⟨h1, h2⟩ | ⟨h1, h2, h3⟩ | ⟨h1, h2, h3, h4⟩ | ⟨h1, h2, h3, h4, h5⟩ | ⟨h1, h2, h3, h4, h5, h6⟩
    all_goals
      go_enter Tryz.func96, Tryz.ntmps96
      go_wp2_with (go_at_call 94; refine (dim_any _ _ _ hM).mono ?_; rintro e w' ⟨rfl, rfl⟩)
      go_ret2
      exact ⟨from_ret HR.out, rfl⟩
  · have HV := Lib.hid hv
    obtain ⟨h1, h2, h3, h4, h5, h6⟩ := ymdB_iff.1 hv
    have hb := ysS_bd y h1 (by omega)
    have hd := dimS_le y m
    clear hv
    go_enter Tryz.func96, Tryz.ntmps96
    go_wp2_with (first | (go_at_call 94; refine (dim_any _ _ _ hM).mono ?_; rintro e w' ⟨rfl, rfl⟩) | (go_at_call 93; refine (ys_any _ _ h1 (by omega)).mono ?_; rintro e w' ⟨rfl, rfl⟩))
    go_loop [8, 9, 39] (fun x z k => ∃ j : Nat, (j : Int) ≤ m - 1 ∧ k = .int .i64 j ∧ x = .int .i64 (ysS y + cumM y j)) (fun _ _ k => (m - 1 - intOf k).toNat)
    case atStart => exact ⟨0, by omega, rfl, by simp [cumM]⟩
    case round =>
      obtain ⟨j, hj, rfl, rfl⟩ := hrel
      have hc := cumM_bd y j (by omega)
      have hd2 := dimS_le y (j + 1)
      by_cases hlt : (j : Int) < m - 1
      · go_wp2_with (go_at_call 94; refine (dim_any _ _ _ hM).mono ?_; rintro e w' ⟨rfl, rfl⟩)
        go_round
        case rel => exact ⟨j + 1, by omega, by go_num, by rw [cumM]; congr 1; omega⟩
        case measure => simp only [intOf]; omega
      · have hj' : (j : Int) = m - 1 := by omega
        have HJ := Lib.hid hj'
        clear hj'
        go_wp2_with fail
        go_ret2
        exact ⟨from_ret (from_end HV.out HJ.out), rfl⟩
end Go.Proofs.YtdnjfpmngnkcfaaGreatDoor
