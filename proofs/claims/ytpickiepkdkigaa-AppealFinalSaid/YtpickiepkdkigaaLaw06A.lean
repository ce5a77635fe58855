/- The contracts at known values, and the fixed examples of the working days' laws. -/
import Derived.Test.YtpickiepkdkigaaRefDayB
namespace Go.Proofs.Ytpickiepkdkigaa
open Go.RowKit

section
variable {wk : Int} {A : Option Addr} {n c : Nat} {hs : List Int} {w : World}
theorem next_is {d a b : Int} (hr : Ints w A n hs) (hn : n ≤ 100) (h : nextS wk hs d = (a, b)) :
    Calls Try.prog 13 #[.agg #[.int .i64 wk, .slice A n c], .int .i64 d] w fun e w' => e = .returned (.tuple #[.int .i64 a, .int .i64 b]) ∧ Kept w w' := by
  have := next_any wk A n c hs d w hr hn; rw [h] at this; exact this
theorem rnext_is {d a b : Int} (hr : Ints w A n hs) (hn : n ≤ 100) (h : nextS wk hs d = (a, b)) :
    Calls Try.prog 14 #[.agg #[.int .i64 wk, .slice A n c], .int .i64 d] w fun e w' => e = .returned (.tuple #[.int .i64 a, .int .i64 b]) ∧ Kept w w' := by
  have := rnext_any wk A n c hs d w hr hn; rw [h] at this; exact this
theorem add_is {d k a b : Int} (hr : Ints w A n hs) (hn : n ≤ 100) (h : addS wk hs d k = (a, b)) :
    Calls Try.prog 19 #[.agg #[.int .i64 wk, .slice A n c], .int .i64 d, .int .i64 k] w fun e w' => e = .returned (.tuple #[.int .i64 a, .int .i64 b]) ∧ Kept w w' := by
  have := add_any wk A n c hs d k w hr hn; rw [h] at this; exact this
theorem radd_is {d k a b : Int} (hr : Ints w A n hs) (hn : n ≤ 100) (h : addS wk hs d k = (a, b)) :
    Calls Try.prog 20 #[.agg #[.int .i64 wk, .slice A n c], .int .i64 d, .int .i64 k] w fun e w' => e = .returned (.tuple #[.int .i64 a, .int .i64 b]) ∧ Kept w w' := by
  have := radd_any wk A n c hs d k w hr hn; rw [h] at this; exact this
theorem count_is {a b k : Int} (hr : Ints w A n hs) (hn : n ≤ 100) (h : countS wk hs a b = k) :
    Calls Try.prog 21 #[.agg #[.int .i64 wk, .slice A n c], .agg #[.int .i64 a, .int .i64 b]] w fun e w' => e = .returned (.int .i64 k) ∧ Kept w w' := by
  rw [← h]; exact count_any wk A n c hs a b w hr hn
theorem rcount_is {a b k : Int} (hr : Ints w A n hs) (hn : n ≤ 100) (h : countS wk hs a b = k) :
    Calls Try.prog 22 #[.agg #[.int .i64 wk, .slice A n c], .agg #[.int .i64 a, .int .i64 b]] w fun e w' => e = .returned (.int .i64 k) ∧ Kept w w' := by
  rw [← h]; exact rcount_any wk A n c hs a b w hr hn
theorem wvalid_is {v : Bool} (hr : Ints w A n hs) (hn : n ≤ 100) (h : vcalB wk hs = v) :
    Calls Try.prog 15 #[.agg #[.int .i64 wk, .slice A n c]] w fun e w' => e = .returned (.bool v) ∧ Kept w w' := by
  rw [← h]; exact wvalid_any wk A n c hs w hr hn
theorem rwvalid_is {v : Bool} (hr : Ints w A n hs) (hn : n ≤ 100) (h : vcalB wk hs = v) :
    Calls Try.prog 16 #[.agg #[.int .i64 wk, .slice A n c]] w fun e w' => e = .returned (.bool v) ∧ Kept w w' := by
  rw [← h]; exact rwvalid_any wk A n c hs w hr hn
theorem isWork_is {d : Int} {v : Bool} (hr : Ints w A n hs) (hn : n ≤ 100) (h : isWorkB wk hs d = v) :
    Calls Try.prog 17 #[.agg #[.int .i64 wk, .slice A n c], .int .i64 d] w fun e w' => e = .returned (.bool v) ∧ Kept w w' := by
  rw [← h]; exact isWork_any wk A n c hs d w hr hn
theorem risWork_is {d : Int} {v : Bool} (hr : Ints w A n hs) (hn : n ≤ 100) (h : isWorkB wk hs d = v) :
    Calls Try.prog 18 #[.agg #[.int .i64 wk, .slice A n c], .int .i64 d] w fun e w' => e = .returned (.bool v) ∧ Kept w w' := by
  rw [← h]; exact rwork_any wk A n c hs d w hr hn
end

theorem ex_valid : vcalB 96 [7] = true := by decide
theorem ex_w4 : isWorkB 96 [7] 4 = true := by decide
theorem ex_w5 : isWorkB 96 [7] 5 = false := by decide
theorem ex_nth : nthS 96 [7] 5 1 = (8, 0) := by
  have h5 : workB 96 [7] 5 = false := by decide
  have h6 : workB 96 [7] 6 = false := by decide
  have h7 : workB 96 [7] 7 = false := by decide
  have h8 : workB 96 [7] 8 = true := by decide
  exact (nthS_no 96 [7] 5 1 (by omega) h5).trans ((nthS_no 96 [7] 6 1 (by omega) h6).trans ((nthS_no 96 [7] 7 1 (by omega) h7).trans (nthS_hit 96 [7] 8 1 (by omega) h8 rfl)))
theorem ex_next : nextS 96 [7] 5 = (8, 0) := by
  unfold nextS
  rw [if_pos ex_valid, if_pos (by decide), ex_nth]
theorem ex_add : addS 96 [7] 4 1 = (8, 0) := by
  unfold addS
  rw [if_pos ex_valid, if_pos (by decide), if_neg (by omega)]
  exact ex_nth
theorem ex_count : countS 96 [7] 0 14 = 9 := by decide

theorem ints_one {W : World} {b : Nat} {x : Int} (hb : b < W.heap.size) (hc : W.cell? ⟨b, 0, none⟩ = some (.int .i64 x)) : Ints W (some ⟨b, 0, none⟩) 1 [x] :=
  ⟨rfl, fun _ => ⟨b, 0, rfl, hb, fun j hj => (by obtain rfl : j = 0 := (by omega); simpa using hc)⟩⟩
set_option maxHeartbeats 1000000 in
theorem awake06_any (w : World) : Calls Try.prog 12 #[] w fun e w' => e = .returned (.bool true) ∧ Kept w w' := by
  go_enter Try.func12, Try.ntmps12
  go_wp2_with fail
  refine (next_is (ints_one (by simp; omega) ((Kept.refl _).boxes2.1 0)) (by omega) ex_next).mono ?_
  rintro e w1 ⟨rfl, k1⟩
  have hbox := k1.cells
  have hz1 : w.heap.size < w1.heap.size := by have := k1.boxes2.2.2; omega
  have hr1 := ints_one hz1 (k1.boxes2.1 0)
  go_wp2_with fail
  refine (add_is hr1 (by omega) ex_add).mono ?_
  rintro e w2 ⟨rfl, k2⟩
  clear hbox
  have hbox := (k1.trans k2).cells
  go_wp2_with fail
  refine (wvalid_is (hr1.kept k2) (by omega) ex_valid).mono ?_
  rintro e w3 ⟨rfl, k3⟩
  clear hbox
  have hbox := ((k1.trans k2).trans k3).cells
  go_wp2_with fail
  refine (isWork_is ((hr1.kept k2).kept k3) (by omega) ex_w4).mono ?_
  rintro e w4 ⟨rfl, k4⟩
  clear hbox
  have hbox := (((k1.trans k2).trans k3).trans k4).cells
  go_wp2_with fail
  refine (isWork_is (((hr1.kept k2).kept k3).kept k4) (by omega) ex_w5).mono ?_
  rintro e w5 ⟨rfl, k5⟩
  clear hbox
  have hbox := ((((k1.trans k2).trans k3).trans k4).trans k5).cells
  go_wp2_with fail
  refine (count_is ((((hr1.kept k2).kept k3).kept k4).kept k5) (by omega) ex_count).mono ?_
  rintro e w6 ⟨rfl, k6⟩
  go_wp2_with fail
  go_ret
  exact ⟨rfl, ((((((((Kept.refl _).alloc _).alloc _).trans k1).trans k2).trans k3).trans k4).trans k5).trans k6⟩
end Go.Proofs.Ytpickiepkdkigaa
