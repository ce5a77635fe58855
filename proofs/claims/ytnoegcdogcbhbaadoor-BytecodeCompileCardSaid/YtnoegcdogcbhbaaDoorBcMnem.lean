/- What mnemonic of package bytecode, and Mnemonic of its reference, compute. -/
import Derived.Test.YtnoegcdogcbhbaaDoorBcText
import Derived.Test.YtnoegcdogcbhbaaDoorBcArity
namespace Go.Proofs.YtnoegcdogcbhbaaDoor
open Go.RowKit

set_option maxRecDepth 100000 in
set_option maxHeartbeats 16000000 in
theorem srcMn_any (op : Int) (h : op ≤ 9) (w : World) : Calls Tryd.prog 74 #[.int .i64 op] w fun e w' => e = .returned (.string (bs (mnS op))) ∧ w = w' := by
  rcases (show (op = 1 ∨ op = 2 ∨ op = 3 ∨ op = 4 ∨ op = 5 ∨ op = 6 ∨ op = 7 ∨ op = 8 ∨ op = 9) ∨ (op < 0 ∨ 53 < op) ∨ op = 0 by omega) with hc | hc | rfl
  · rcases hc with rfl | rfl | rfl | rfl | rfl | rfl | rfl | rfl | rfl
    all_goals
      go_enter Tryd.func74, Tryd.ntmps74
      go_wp2_with fail
      go_ret
      exact ⟨rfl, rfl⟩
  · rw [mnS_out hc]
    have e1 := beq_noB (show op ≠ 1 by omega)
    have e2 := beq_noB (show op ≠ 2 by omega)
    have e3 := beq_noB (show op ≠ 3 by omega)
    have e4 := beq_noB (show op ≠ 4 by omega)
    have e5 := beq_noB (show op ≠ 5 by omega)
    have e6 := beq_noB (show op ≠ 6 by omega)
    have e7 := beq_noB (show op ≠ 7 by omega)
    have e8 := beq_noB (show op ≠ 8 by omega)
    have e9 := beq_noB (show op ≠ 9 by omega)
    clear hc
    go_enter Tryd.func74, Tryd.ntmps74
    go_wp2_with fail
    go_ret
    exact ⟨rfl, rfl⟩
  · go_enter Tryd.func74, Tryd.ntmps74
    go_wp2_with fail
    go_ret
    exact ⟨rfl, rfl⟩
set_option maxRecDepth 100000 in
set_option maxHeartbeats 16000000 in
theorem arMn_any (op : Int) (h0 : 9 < op) (h : op ≤ 25) (w : World) : Calls Tryd.prog 75 #[.int .i64 op] w fun e w' => e = .returned (.string (bs (mnS op))) ∧ w = w' := by
  rcases (show op = 10 ∨ op = 11 ∨ op = 12 ∨ op = 13 ∨ op = 14 ∨ op = 15 ∨ op = 16 ∨ op = 17 ∨ op = 18 ∨ op = 19 ∨ op = 20 ∨ op = 21 ∨ op = 22 ∨ op = 23 ∨ op = 24 ∨ op = 25 by omega) with rfl | rfl | rfl | rfl | rfl | rfl | rfl | rfl | rfl | rfl | rfl | rfl | rfl | rfl | rfl | rfl
  all_goals
    go_enter Tryd.func75, Tryd.ntmps75
    go_wp2_with fail
    go_ret
    exact ⟨rfl, rfl⟩
set_option maxRecDepth 100000 in
set_option maxHeartbeats 16000000 in
theorem mnem_any (op : Int) (w : World) : Calls Tryd.prog 38 #[.int .i64 op] w fun e w' => e = .returned (.string (bs (mnS op))) ∧ w = w' := by
  rcases (show op ≤ 9 ∨ (9 < op ∧ op ≤ 25) ∨ (op = 26 ∨ op = 27 ∨ op = 28 ∨ op = 29 ∨ op = 30 ∨ op = 31 ∨ op = 32 ∨ op = 33 ∨ op = 34 ∨ op = 35 ∨ op = 36 ∨ op = 37 ∨ op = 38 ∨ op = 39 ∨ op = 40 ∨ op = 41 ∨ op = 42 ∨ op = 43 ∨ op = 44 ∨ op = 45 ∨ op = 46 ∨ op = 47 ∨ op = 48 ∨ op = 49 ∨ op = 50 ∨ op = 51 ∨ op = 52 ∨ op = 53) ∨ 53 < op by omega) with hc | ⟨h1, h2⟩ | hc | hc
  · have H := Lib.hid (fun w => srcMn_any op hc w)
    generalize bs (mnS op) = X at *
    go_enter Tryd.func38, Tryd.ntmps38
    go_wp2_with (go_at_call 74; refine (H.out _).mono ?_; rintro e w1 ⟨rfl, rfl⟩)
    go_ret
    exact ⟨rfl, rfl⟩
  · have H := Lib.hid (fun w => arMn_any op h1 h2 w)
    have h1n : ¬ op ≤ 9 := by omega
    clear h1
    generalize bs (mnS op) = X at *
    go_enter Tryd.func38, Tryd.ntmps38
    go_wp2_with (go_at_call 75; refine (H.out _).mono ?_; rintro e w1 ⟨rfl, rfl⟩)
    go_ret
    exact ⟨rfl, rfl⟩
  · rcases hc with rfl | rfl | rfl | rfl | rfl | rfl | rfl | rfl | rfl | rfl | rfl | rfl | rfl | rfl | rfl | rfl | rfl | rfl | rfl | rfl | rfl | rfl | rfl | rfl | rfl | rfl | rfl | rfl
    all_goals
      go_enter Tryd.func38, Tryd.ntmps38
      go_wp2_with fail
      go_ret
      exact ⟨rfl, rfl⟩
  · rw [mnS_out (.inr hc)]
    have h1n : ¬ op ≤ 9 := by omega
    have h2n : ¬ op ≤ 25 := by omega
    have e26 := beq_noB (show op ≠ 26 by omega)
    have e27 := beq_noB (show op ≠ 27 by omega)
    have e28 := beq_noB (show op ≠ 28 by omega)
    have e29 := beq_noB (show op ≠ 29 by omega)
    have e30 := beq_noB (show op ≠ 30 by omega)
    have e31 := beq_noB (show op ≠ 31 by omega)
    have e32 := beq_noB (show op ≠ 32 by omega)
    have e33 := beq_noB (show op ≠ 33 by omega)
    have e34 := beq_noB (show op ≠ 34 by omega)
    have e35 := beq_noB (show op ≠ 35 by omega)
    have e36 := beq_noB (show op ≠ 36 by omega)
    have e37 := beq_noB (show op ≠ 37 by omega)
    have e38 := beq_noB (show op ≠ 38 by omega)
    have e39 := beq_noB (show op ≠ 39 by omega)
    have e40 := beq_noB (show op ≠ 40 by omega)
    have e41 := beq_noB (show op ≠ 41 by omega)
    have e42 := beq_noB (show op ≠ 42 by omega)
    have e43 := beq_noB (show op ≠ 43 by omega)
    have e44 := beq_noB (show op ≠ 44 by omega)
    have e45 := beq_noB (show op ≠ 45 by omega)
    have e46 := beq_noB (show op ≠ 46 by omega)
    have e47 := beq_noB (show op ≠ 47 by omega)
    have e48 := beq_noB (show op ≠ 48 by omega)
    have e49 := beq_noB (show op ≠ 49 by omega)
    have e50 := beq_noB (show op ≠ 50 by omega)
    have e51 := beq_noB (show op ≠ 51 by omega)
    have e52 := beq_noB (show op ≠ 52 by omega)
    have e53 := beq_noB (show op ≠ 53 by omega)
    clear hc
    go_enter Tryd.func38, Tryd.ntmps38
    go_wp2_with fail
    go_ret
    exact ⟨rfl, rfl⟩
end Go.Proofs.YtnoegcdogcbhbaaDoor
