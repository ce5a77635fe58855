/- What Arity of package expr, and of its reference, computes. -/
import Derived.Test.YtdnjfpmngnkcfaaGreatDoorBcMath
import Derived.Test.YtdnjfpmngnkcfaaGreatDoorBlks
namespace Go.Proofs.YtdnjfpmngnkcfaaGreatDoor
open Go.RowKit

theorem beq_noB {a b : Int} (h : a ≠ b) : (a == b) = false := by simpa using h
theorem bne_noB {a b : Int} (h : a ≠ b) : (a != b) = true := by simpa using h
theorem arS_out {op : Int} (h : op < 1 ∨ 39 < op) : arS op = -1 := by
  unfold arS
  rw [if_neg (by omega), if_neg (by omega), if_neg (by omega), if_neg (by omega)]
set_option maxRecDepth 100000 in
set_option maxHeartbeats 16000000 in
theorem arity_any (op : Int) (w : World) : Calls Tryz.prog 16 #[.int .i64 op] w fun e w' => e = .returned (.int .i64 (arS op)) ∧ w = w' := by
  rcases (show (op = 1 ∨ op = 2 ∨ op = 3 ∨ op = 4 ∨ op = 5 ∨ op = 6 ∨ op = 7 ∨ op = 8 ∨ op = 9 ∨ op = 10 ∨ op = 11 ∨ op = 12 ∨ op = 13 ∨ op = 14 ∨ op = 15 ∨ op = 16 ∨ op = 17 ∨ op = 18 ∨ op = 19 ∨ op = 20 ∨ op = 21 ∨ op = 22 ∨ op = 23 ∨ op = 24 ∨ op = 25 ∨ op = 26 ∨ op = 27 ∨ op = 28 ∨ op = 29 ∨ op = 30 ∨ op = 31 ∨ op = 32 ∨ op = 33 ∨ op = 34 ∨ op = 35 ∨ op = 36 ∨ op = 37 ∨ op = 38 ∨ op = 39) ∨ (op < 1 ∨ 39 < op) by omega) with hc | hc
  · rcases hc with rfl | rfl | rfl | rfl | rfl | rfl | rfl | rfl | rfl | rfl | rfl | rfl | rfl | rfl | rfl | rfl | rfl | rfl | rfl | rfl | rfl | rfl | rfl | rfl | rfl | rfl | rfl | rfl | rfl | rfl | rfl | rfl | rfl | rfl | rfl | rfl | rfl | rfl | rfl
    all_goals
      go_enter Tryz.func16, Tryz.ntmps16
      go_wp2_with fail
      go_ret
      exact ⟨rfl, rfl⟩
  · have HR := Lib.hid (arS_out hc)
    have e1 := beq_noB (show op ≠ 1 by omega)
    have e2 := beq_noB (show op ≠ 2 by omega)
    have e3 := beq_noB (show op ≠ 3 by omega)
    have e4 := beq_noB (show op ≠ 4 by omega)
    have e5 := beq_noB (show op ≠ 5 by omega)
    have e6 := beq_noB (show op ≠ 6 by omega)
    have e7 := beq_noB (show op ≠ 7 by omega)
    have e8 := beq_noB (show op ≠ 8 by omega)
    have e9 := beq_noB (show op ≠ 9 by omega)
    have e10 := beq_noB (show op ≠ 10 by omega)
    have e11 := beq_noB (show op ≠ 11 by omega)
    have e12 := beq_noB (show op ≠ 12 by omega)
    have e13 := beq_noB (show op ≠ 13 by omega)
    have e14 := beq_noB (show op ≠ 14 by omega)
    have e15 := beq_noB (show op ≠ 15 by omega)
    have e16 := beq_noB (show op ≠ 16 by omega)
    have e17 := beq_noB (show op ≠ 17 by omega)
    have e18 := beq_noB (show op ≠ 18 by omega)
    have e19 := beq_noB (show op ≠ 19 by omega)
    have e20 := beq_noB (show op ≠ 20 by omega)
    have e21 := beq_noB (show op ≠ 21 by omega)
    have e22 := beq_noB (show op ≠ 22 by omega)
    have e23 := beq_noB (show op ≠ 23 by omega)
    have e24 := beq_noB (show op ≠ 24 by omega)
    have e25 := beq_noB (show op ≠ 25 by omega)
    have e26 := beq_noB (show op ≠ 26 by omega)
    have e27 := beq_noB (show op ≠ 27 by omega)
    have e28 := beq_noB (show op ≠ 28 by omega)
    have e29 := beq_noB (show op ≠ 29 by omega)
    have e30 := beq_noB (show op ≠ 30 by omega)
    have e31 := beq_noB (show op ≠ 31 by omega)
    have e32 := beq_noB (show op ≠ 32 by omega)
    have e33 := beq_noB (show op ≠ 33 by omega)
    have e34 := beq_noB (show op ≠ 34 by omega)
    have e35 := beq_noB (show op ≠ 35 by omega)
    have e36 := beq_noB (show op ≠ 36 by omega)
    have e37 := beq_noB (show op ≠ 37 by omega)
    have e38 := beq_noB (show op ≠ 38 by omega)
    have e39 := beq_noB (show op ≠ 39 by omega)
    clear hc
    go_enter Tryz.func16, Tryz.ntmps16
    go_wp2_with fail
    go_ret
    rw [HR.out]
    exact ⟨rfl, rfl⟩
end Go.Proofs.YtdnjfpmngnkcfaaGreatDoor
