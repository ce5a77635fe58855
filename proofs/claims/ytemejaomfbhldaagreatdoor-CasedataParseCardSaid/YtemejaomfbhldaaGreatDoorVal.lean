/- What package value, and its reference, compute: types and bounds. -/
import Derived.Test.YtemejaomfbhldaaGreatDoorEnums
import Derived.Test.YtemejaomfbhldaaGreatDoorValDef
namespace Go.Proofs.YtemejaomfbhldaaGreatDoor
open Go.RowKit

theorem beq_no {a b : Int} (h : a ≠ b) : (a == b) = false := by simpa using h
/-- the ways through a type -/
theorem vt_cases (k e : Int) (ms : List (List ByteArray)) : ((k = 1 ∨ k = 2 ∨ k = 3 ∨ k = 4 ∨ k = 5) ∧ (e = 0 ∧ vtB k e ms = true ∨ (e == 0) = false ∧ vtB k e ms = false)) ∨ (k = 6 ∧ (e < 0 ∧ vtB k e ms = false ∨ ∃ j : Nat, e = j ∧ (decide (j < ms.length) = true ∧ vtB k e ms = true ∨ decide (j < ms.length) = false ∧ vtB k e ms = false))) ∨
    ((k < 1 ∨ 6 < k) ∧ vtB k e ms = false) := by
  by_cases h6 : k = 6
  · subst h6
    refine .inr (.inl ⟨rfl, ?_⟩)
    rw [vtB_six]
    by_cases he : e < 0
    · exact .inl ⟨he, by rw [decide_eq_false (by omega)]; rfl⟩
    · refine .inr ⟨e.toNat, by omega, ?_⟩
      rw [decide_eq_true (show 0 ≤ e by omega), Bool.true_and]
      by_cases hj : e.toNat < ms.length
      · exact .inl ⟨decide_eq_true hj, decide_eq_true (by omega)⟩
      · exact .inr ⟨decide_eq_false hj, decide_eq_false (by omega)⟩
  · rw [vtB_low h6]
    by_cases hk : 1 ≤ k ∧ k ≤ 5
    · refine .inl ⟨by omega, ?_⟩
      rw [decide_eq_true hk.1, decide_eq_true hk.2]
      by_cases he : e = 0
      · exact .inl ⟨he, by simp [he]⟩
      · exact .inr ⟨beq_no he, by simp [he]⟩
    · refine .inr (.inr ⟨by omega, ?_⟩)
      by_cases h1 : 1 ≤ k
      · rw [decide_eq_true h1, decide_eq_false (show ¬ k ≤ 5 by omega)]; rfl
      · rw [decide_eq_false h1]; rfl
set_option maxRecDepth 100000 in
set_option maxHeartbeats 4000000 in
theorem vtype_any (k e : Int) (v : Value) (ms : List (List ByteArray)) (w : World) (hE : Enums w v ms) :
    Calls Tryz.prog 61 #[.agg #[.int .i64 k, .int .i64 e], v] w fun r w' => r = .returned (.bool (vtB k e ms)) ∧ Kept w w' := by
  obtain ⟨A, cap, rfl, hm, _⟩ := hE
  rcases vt_cases k e ms with ⟨hk, ⟨rfl, hv⟩ | ⟨he, hv⟩⟩ | ⟨rfl, ⟨he, hv⟩ | ⟨j, rfl, ⟨hj, hv⟩ | ⟨hj, hv⟩⟩⟩ | ⟨hk, hv⟩
  iterate 2
    · have HV := Lib.hid hv; clear hv
      rcases hk with rfl | rfl | rfl | rfl | rfl
      all_goals
        go_enter Tryz.func61, Tryz.ntmps61
        go_wp2_with fail
        go_ret
        rw [HV.out]
        exact ⟨rfl, (Kept.refl _).alloc _⟩
  iterate 3
    · have HV := Lib.hid hv; clear hv
      go_enter Tryz.func61, Tryz.ntmps61
      go_wp2_with fail
      go_ret
      rw [HV.out]
      first | exact ⟨rfl, (Kept.refl _).alloc _⟩ | exact ⟨ret_bool hj, (Kept.refl _).alloc _⟩
  · have HV := Lib.hid hv; clear hv
    have k1 := beq_no (show k ≠ 1 by omega)
    have k2 := beq_no (show k ≠ 2 by omega)
    have k3 := beq_no (show k ≠ 3 by omega)
    have k4 := beq_no (show k ≠ 4 by omega)
    have k5 := beq_no (show k ≠ 5 by omega)
    have k6 := beq_no (show k ≠ 6 by omega)
    go_enter Tryz.func61, Tryz.ntmps61
    go_wp2_with fail
    go_ret
    rw [HV.out]
    exact ⟨rfl, (Kept.refl _).alloc _⟩
set_option maxRecDepth 100000 in
set_option maxHeartbeats 4000000 in
theorem rvtype_any (k e : Int) (v : Value) (ms : List (List ByteArray)) (w : World) (hE : Enums w v ms) :
    Calls Tryz.prog 69 #[.agg #[.int .i64 k, .int .i64 e], v] w fun r w' => r = .returned (.bool (vtB k e ms)) ∧ Kept w w' := by
  obtain ⟨A, cap, rfl, hm, _⟩ := hE
  rcases vt_cases k e ms with ⟨hk, ⟨rfl, hv⟩ | ⟨he, hv⟩⟩ | ⟨rfl, ⟨he, hv⟩ | ⟨j, rfl, ⟨hj, hv⟩ | ⟨hj, hv⟩⟩⟩ | ⟨hk, hv⟩
  iterate 2
    · have HV := Lib.hid hv; clear hv
      rcases hk with rfl | rfl | rfl | rfl | rfl
      all_goals
        go_enter Tryz.func69, Tryz.ntmps69
        go_wp2_with fail
        go_ret
        rw [HV.out]
        exact ⟨rfl, (Kept.refl _).alloc _⟩
  iterate 3
    · have HV := Lib.hid hv; clear hv
      go_enter Tryz.func69, Tryz.ntmps69
      go_wp2_with fail
      go_ret
      rw [HV.out]
      first | exact ⟨rfl, (Kept.refl _).alloc _⟩ | exact ⟨ret_bool hj, (Kept.refl _).alloc _⟩
  · have HV := Lib.hid hv; clear hv
    have k6 := beq_no (show k ≠ 6 by omega)
    rcases hk with hk | hk
    · have k1 : ¬ 1 ≤ k := by omega
      go_enter Tryz.func69, Tryz.ntmps69
      go_wp2_with fail
      go_ret
      rw [HV.out]
      exact ⟨rfl, (Kept.refl _).alloc _⟩
    · have k1 : 1 ≤ k := by omega
      have k5 : ¬ k ≤ 5 := by omega
      go_enter Tryz.func69, Tryz.ntmps69
      go_wp2_with fail
      go_ret
      rw [HV.out]
      exact ⟨rfl, (Kept.refl _).alloc _⟩
/-- a valid type -/
theorem vt_true {k e : Int} {ms : List (List ByteArray)} (h : vtB k e ms = true) : ((k = 1 ∨ k = 2 ∨ k = 3 ∨ k = 4 ∨ k = 5) ∧ e = 0) ∨ (k = 6 ∧ ∃ j : Nat, e = j ∧ j < ms.length) := by
  rcases vtB_cases h with ⟨he, hk⟩ | ⟨hk, h0, h1⟩
  · exact .inl ⟨hk, he⟩
  · exact .inr ⟨hk, e.toNat, by omega, by omega⟩
end Go.Proofs.YtemejaomfbhldaaGreatDoor
