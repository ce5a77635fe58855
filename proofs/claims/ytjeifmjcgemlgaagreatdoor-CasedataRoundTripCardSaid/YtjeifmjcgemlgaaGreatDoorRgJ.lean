/- The small functions of the references of chapters 5 and 10 end, whatever they are given. -/
import Derived.Test.YtjeifmjcgemlgaaGreatDoorRgH
import Derived.Test.YtjeifmjcgemlgaaGreatDoorRgA
namespace Go.Proofs.YtjeifmjcgemlgaaGreatDoor
open Go.RowKit

/-- a truth value is returned, and what was is kept -/
def BoolK (w : World) (r : Ending) (w' : World) : Prop := ∃ b : Bool, r = .returned (.bool b) ∧ Kept w w'
/-- and nothing else -/
def BoolP (w : World) (r : Ending) (w' : World) : Prop := ∃ b : Bool, r = .returned (.bool b) ∧ w = w'
/-- a number is returned -/
def IntK (w : World) (r : Ending) (w' : World) : Prop := ∃ n : Int, r = .returned (.int .i64 n) ∧ Kept w w'
/-- a type and a truth value -/
def TyB (w : World) (r : Ending) (w' : World) : Prop := ∃ (k e : Int) (b : Bool), r = .returned (.tuple #[.agg #[.int .i64 k, .int .i64 e], .bool b]) ∧ Kept w w'
/-- a truth value; true only if Q holds -/
def BoolQ (Q : Prop) (w : World) (r : Ending) (w' : World) : Prop := ∃ b : Bool, r = .returned (.bool b) ∧ Kept w w' ∧ (b = true → Q)
def numB (k : Int) : Bool := (k == 2) || ((k == 3) || (k == 4))
def ordB (k : Int) : Bool := numB k || (k == 5)
set_option maxRecDepth 100000 in
theorem rnumber_k (k : Int) (w : World) : Calls Tryz.prog 136 #[.int .i64 k] w fun e w' => e = .returned (.bool (numB k)) ∧ w = w' := by
  have hk : numB k = ((k == 2) || ((k == 3) || (k == 4))) := rfl
  have HR := Lib.hid hk
  clear hk
  rcases (show k = 2 ∨ k = 3 ∨ (k ≠ 2 ∧ k ≠ 3) by omega) with rfl | rfl | ⟨h2, h3⟩
  · go_enter Tryz.func136, Tryz.ntmps136
    go_wp2_with fail
    go_ret
    exact ⟨ret_bool HR.out.symm, rfl⟩
  · go_enter Tryz.func136, Tryz.ntmps136
    go_wp2_with fail
    go_ret
    exact ⟨ret_bool HR.out.symm, rfl⟩
  · have e2 : (k == 2) = false := by simpa using h2
    have e3 : (k == 3) = false := by simpa using h3
    have HR2 := Lib.hid (show numB k = (k == 4) by rw [HR.out, e2, e3]; rfl)
    go_enter Tryz.func136, Tryz.ntmps136
    go_wp2_with fail
    go_ret
    exact ⟨ret_bool HR2.out.symm, rfl⟩
set_option maxRecDepth 100000 in
theorem rordered_k (k : Int) (w : World) : Calls Tryz.prog 135 #[.int .i64 k] w fun e w' => e = .returned (.bool (ordB k)) ∧ w = w' := by
  have HN := Lib.hid (fun w1 => rnumber_k k w1)
  have hk : ordB k = (numB k || (k == 5)) := rfl
  cases h : numB k
  all_goals
    rw [h] at HN hk
    have HR := Lib.hid hk
    clear hk h
    go_enter Tryz.func135, Tryz.ntmps135
    go_wp2_with (go_at_call 136; refine (HN.out _).mono ?_; rintro e w' ⟨rfl, rfl⟩)
    go_ret
    exact ⟨ret_bool HR.out.symm, rfl⟩
set_option maxRecDepth 100000 in
theorem rkind_k (k : Int) (w : World) : Calls Tryz.prog 134 #[.int .i64 k] w fun e w' => e = .returned (.agg #[.int .i64 k, .int .i64 0]) ∧ Kept w w' := by
  go_enter Tryz.func134, Tryz.ntmps134
  go_wp2_with fail
  exact bodyPost_ret (v := .agg #[.int .i64 k, .int .i64 0]) (by simp [results, Tryz.results134, go_sem]) rfl ⟨rfl, (Kept.refl _).alloc _⟩
set_option maxRecDepth 100000 in
theorem rmeaning_k (op : Int) (w : World) : Calls Tryz.prog 122 #[.int .i64 op] w (BoolP w) := by
  go_enter Tryz.func122, Tryz.ntmps122
  go_wp2_with fail
  all_goals (go_ret; exact ⟨_, rfl, rfl⟩)
set_option maxRecDepth 100000 in
theorem rvalid05_k (a b : Int) (w : World) : Calls Tryz.prog 71 #[.agg #[.int .i64 a, .int .i64 b]] w (BoolK w) := by
  have K0 := Lib.hid ((Kept.refl w).alloc (.cells #[.int .i64 a, .int .i64 b] 90))
  by_cases h1 : 0 ≤ a
  · by_cases h2 : a ≤ b
    · go_enter Tryz.func71, Tryz.ntmps71
      go_wp2_with fail
      go_ret
      exact ⟨_, rfl, K0.out⟩
    · go_enter Tryz.func71, Tryz.ntmps71
      go_wp2_with fail
      go_ret
      exact ⟨_, rfl, K0.out⟩
  · go_enter Tryz.func71, Tryz.ntmps71
    go_wp2_with fail
    go_ret
    exact ⟨_, rfl, K0.out⟩
end Go.Proofs.YtjeifmjcgemlgaaGreatDoor
/- The types of products, quotients and of all operations with two operands end, whatever they are given. -/
namespace Go.Proofs.YtjeifmjcgemlgaaGreatDoor
open Go.RowKit

set_option maxRecDepth 100000 in
set_option maxHeartbeats 8000000 in
theorem rscaled_k (op a b : Int) (w : World) : Calls Tryz.prog 137 #[.int .i64 op, .int .i64 a, .int .i64 b] w (TyB w) := by
  have HK := Lib.hid (fun k w1 => rkind_k k w1)
  have HK0 := Lib.hid ((Kept.refl w).alloc (.cells #[.int .i64 0, .int .i64 0] 47))
  have HB := Lib.hid (fun w1 (k : Kept (w.alloc (.cells #[.int .i64 0, .int .i64 0] 47)) w1) => (Blk.new w 47 #[.int .i64 0, .int .i64 0]).kept k)
  by_cases h13 : op = 13
  · subst h13
    by_cases hb : b = 2
    · subst hb
      by_cases h1 : a = 2
      · subst h1
        go_enter Tryz.func137, Tryz.ntmps137
        go_wp2_with (go_at_call 134; refine (HK.out _ _).mono ?_; rintro e w1 ⟨rfl, k1⟩; have C := HB.out w1 k1; have cc := C.cell; have cl := C.lt; have cf := C.frozen; have HKX := Lib.hid (HK0.out.trans k1))
        have BW := (C.set_ 0 (.int .i64 2)).set_ 1 (.int .i64 0)
        have KF : Kept w ((w1.setCell ⟨w.heap.size, 0, none⟩ (.int .i64 2)).setCell ⟨w.heap.size, 1, none⟩ (.int .i64 0)) := by
          repeat refine Kept.setCell ?_ (by simp only; omega) _
          exact HKX.out
        generalize (w1.setCell ⟨w.heap.size, 0, none⟩ (.int .i64 2)).setCell ⟨w.heap.size, 1, none⟩ (.int .i64 0) = WW at *
        have bw := BW.cell
        exact bodyPost_ret (v := .tuple #[.agg #[.int .i64 2, .int .i64 0], .bool (true)]) (by simp [results, Tryz.results137, go_sem, bw]) rfl ⟨_, _, _, rfl, KF⟩
      · have e1 : (a == 2) = false := by simpa using h1
        go_enter Tryz.func137, Tryz.ntmps137
        go_wp2_with (go_at_call 134; refine (HK.out _ _).mono ?_; rintro e w1 ⟨rfl, k1⟩; have C := HB.out w1 k1; have cc := C.cell; have cl := C.lt; have cf := C.frozen; have HKX := Lib.hid (HK0.out.trans k1))
        have BW := (C.set_ 0 (.int .i64 a)).set_ 1 (.int .i64 0)
        have KF : Kept w ((w1.setCell ⟨w.heap.size, 0, none⟩ (.int .i64 a)).setCell ⟨w.heap.size, 1, none⟩ (.int .i64 0)) := by
          repeat refine Kept.setCell ?_ (by simp only; omega) _
          exact HKX.out
        generalize (w1.setCell ⟨w.heap.size, 0, none⟩ (.int .i64 a)).setCell ⟨w.heap.size, 1, none⟩ (.int .i64 0) = WW at *
        have bw := BW.cell
        exact bodyPost_ret (v := .tuple #[.agg #[.int .i64 a, .int .i64 0], .bool (a == 3)]) (by simp [results, Tryz.results137, go_sem, bw]) rfl ⟨_, _, _, rfl, KF⟩
    · have e0 : (b == 2) = false := by simpa using hb
      go_enter Tryz.func137, Tryz.ntmps137
      go_wp2_with (go_at_call 134; refine (HK.out _ _).mono ?_; rintro e w1 ⟨rfl, k1⟩; have C := HB.out w1 k1; have cc := C.cell; have cl := C.lt; have cf := C.frozen; have HKX := Lib.hid (HK0.out.trans k1))
      have BW := (C.set_ 0 (.int .i64 a)).set_ 1 (.int .i64 0)
      have KF : Kept w ((w1.setCell ⟨w.heap.size, 0, none⟩ (.int .i64 a)).setCell ⟨w.heap.size, 1, none⟩ (.int .i64 0)) := by
        repeat refine Kept.setCell ?_ (by simp only; omega) _
        exact HKX.out
      generalize (w1.setCell ⟨w.heap.size, 0, none⟩ (.int .i64 a)).setCell ⟨w.heap.size, 1, none⟩ (.int .i64 0) = WW at *
      have bw := BW.cell
      exact bodyPost_ret (v := .tuple #[.agg #[.int .i64 a, .int .i64 0], .bool (false)]) (by simp [results, Tryz.results137, go_sem, bw]) rfl ⟨_, _, _, rfl, KF⟩
  have o13 : (op == 13) = false := by simpa using h13
  by_cases h14 : op = 14
  · subst h14
    by_cases hb : b = 4
    · subst hb
      by_cases h1 : a = 3
      · subst h1
        go_enter Tryz.func137, Tryz.ntmps137
        go_wp2_with (go_at_call 134; refine (HK.out _ _).mono ?_; rintro e w1 ⟨rfl, k1⟩; have C := HB.out w1 k1; have cc := C.cell; have cl := C.lt; have cf := C.frozen; have HKX := Lib.hid (HK0.out.trans k1))
        have BW := (C.set_ 0 (.int .i64 3)).set_ 1 (.int .i64 0)
        have KF : Kept w ((w1.setCell ⟨w.heap.size, 0, none⟩ (.int .i64 3)).setCell ⟨w.heap.size, 1, none⟩ (.int .i64 0)) := by
          repeat refine Kept.setCell ?_ (by simp only; omega) _
          exact HKX.out
        generalize (w1.setCell ⟨w.heap.size, 0, none⟩ (.int .i64 3)).setCell ⟨w.heap.size, 1, none⟩ (.int .i64 0) = WW at *
        have bw := BW.cell
        exact bodyPost_ret (v := .tuple #[.agg #[.int .i64 3, .int .i64 0], .bool (true)]) (by simp [results, Tryz.results137, go_sem, bw]) rfl ⟨_, _, _, rfl, KF⟩
      · have e1 : (a == 3) = false := by simpa using h1
        go_enter Tryz.func137, Tryz.ntmps137
        go_wp2_with (go_at_call 134; refine (HK.out _ _).mono ?_; rintro e w1 ⟨rfl, k1⟩; have C := HB.out w1 k1; have cc := C.cell; have cl := C.lt; have cf := C.frozen; have HKX := Lib.hid (HK0.out.trans k1))
        have BW := (C.set_ 0 (.int .i64 a)).set_ 1 (.int .i64 0)
        have KF : Kept w ((w1.setCell ⟨w.heap.size, 0, none⟩ (.int .i64 a)).setCell ⟨w.heap.size, 1, none⟩ (.int .i64 0)) := by
          repeat refine Kept.setCell ?_ (by simp only; omega) _
          exact HKX.out
        generalize (w1.setCell ⟨w.heap.size, 0, none⟩ (.int .i64 a)).setCell ⟨w.heap.size, 1, none⟩ (.int .i64 0) = WW at *
        have bw := BW.cell
        exact bodyPost_ret (v := .tuple #[.agg #[.int .i64 a, .int .i64 0], .bool (a == 4)]) (by simp [results, Tryz.results137, go_sem, bw]) rfl ⟨_, _, _, rfl, KF⟩
    · have e0 : (b == 4) = false := by simpa using hb
      go_enter Tryz.func137, Tryz.ntmps137
      go_wp2_with (go_at_call 134; refine (HK.out _ _).mono ?_; rintro e w1 ⟨rfl, k1⟩; have C := HB.out w1 k1; have cc := C.cell; have cl := C.lt; have cf := C.frozen; have HKX := Lib.hid (HK0.out.trans k1))
      have BW := (C.set_ 0 (.int .i64 a)).set_ 1 (.int .i64 0)
      have KF : Kept w ((w1.setCell ⟨w.heap.size, 0, none⟩ (.int .i64 a)).setCell ⟨w.heap.size, 1, none⟩ (.int .i64 0)) := by
        repeat refine Kept.setCell ?_ (by simp only; omega) _
        exact HKX.out
      generalize (w1.setCell ⟨w.heap.size, 0, none⟩ (.int .i64 a)).setCell ⟨w.heap.size, 1, none⟩ (.int .i64 0) = WW at *
      have bw := BW.cell
      exact bodyPost_ret (v := .tuple #[.agg #[.int .i64 a, .int .i64 0], .bool (false)]) (by simp [results, Tryz.results137, go_sem, bw]) rfl ⟨_, _, _, rfl, KF⟩
  have o14 : (op == 14) = false := by simpa using h14
  clear h13 h14
  by_cases h3 : a = 3
  · subst h3
    by_cases hb : b = 3
    · subst hb
      go_enter Tryz.func137, Tryz.ntmps137
      go_wp2_with (go_at_call 134; refine (HK.out _ _).mono ?_; rintro e w1 ⟨rfl, k1⟩; have C := HB.out w1 k1; have cc := C.cell; have cl := C.lt; have cf := C.frozen; have HKX := Lib.hid (HK0.out.trans k1))
      have BW := (C.set_ 0 (.int .i64 4)).set_ 1 (.int .i64 0)
      have KF : Kept w ((w1.setCell ⟨w.heap.size, 0, none⟩ (.int .i64 4)).setCell ⟨w.heap.size, 1, none⟩ (.int .i64 0)) := by
        repeat refine Kept.setCell ?_ (by simp only; omega) _
        exact HKX.out
      generalize (w1.setCell ⟨w.heap.size, 0, none⟩ (.int .i64 4)).setCell ⟨w.heap.size, 1, none⟩ (.int .i64 0) = WW at *
      have bw := BW.cell
      exact bodyPost_ret (v := .tuple #[.agg #[.int .i64 4, .int .i64 0], .bool (true)]) (by simp [results, Tryz.results137, go_sem, bw]) rfl ⟨_, _, _, rfl, KF⟩
    · have e0 : (b == 3) = false := by simpa using hb
      by_cases hb2 : b = 2
      · subst hb2
        go_enter Tryz.func137, Tryz.ntmps137
        go_wp2_with (go_at_call 134; refine (HK.out _ _).mono ?_; rintro e w1 ⟨rfl, k1⟩; have C := HB.out w1 k1; have cc := C.cell; have cl := C.lt; have cf := C.frozen; have HKX := Lib.hid (HK0.out.trans k1))
        have BW := (C.set_ 0 (.int .i64 3)).set_ 1 (.int .i64 0)
        have KF : Kept w ((w1.setCell ⟨w.heap.size, 0, none⟩ (.int .i64 3)).setCell ⟨w.heap.size, 1, none⟩ (.int .i64 0)) := by
          repeat refine Kept.setCell ?_ (by simp only; omega) _
          exact HKX.out
        generalize (w1.setCell ⟨w.heap.size, 0, none⟩ (.int .i64 3)).setCell ⟨w.heap.size, 1, none⟩ (.int .i64 0) = WW at *
        have bw := BW.cell
        exact bodyPost_ret (v := .tuple #[.agg #[.int .i64 3, .int .i64 0], .bool (true)]) (by simp [results, Tryz.results137, go_sem, bw]) rfl ⟨_, _, _, rfl, KF⟩
      · have e1 : (b == 2) = false := by simpa using hb2
        go_enter Tryz.func137, Tryz.ntmps137
        go_wp2_with (go_at_call 134; refine (HK.out _ _).mono ?_; rintro e w1 ⟨rfl, k1⟩; have C := HB.out w1 k1; have cc := C.cell; have cl := C.lt; have cf := C.frozen; have HKX := Lib.hid (HK0.out.trans k1))
        have BW := (C.set_ 0 (.int .i64 3)).set_ 1 (.int .i64 0)
        have KF : Kept w ((w1.setCell ⟨w.heap.size, 0, none⟩ (.int .i64 3)).setCell ⟨w.heap.size, 1, none⟩ (.int .i64 0)) := by
          repeat refine Kept.setCell ?_ (by simp only; omega) _
          exact HKX.out
        generalize (w1.setCell ⟨w.heap.size, 0, none⟩ (.int .i64 3)).setCell ⟨w.heap.size, 1, none⟩ (.int .i64 0) = WW at *
        have bw := BW.cell
        exact bodyPost_ret (v := .tuple #[.agg #[.int .i64 3, .int .i64 0], .bool (false)]) (by simp [results, Tryz.results137, go_sem, bw]) rfl ⟨_, _, _, rfl, KF⟩
  · have e3 : (a == 3) = false := by simpa using h3
    by_cases hb : b = 2
    · subst hb
      by_cases h1 : a = 2
      · subst h1
        go_enter Tryz.func137, Tryz.ntmps137
        go_wp2_with (go_at_call 134; refine (HK.out _ _).mono ?_; rintro e w1 ⟨rfl, k1⟩; have C := HB.out w1 k1; have cc := C.cell; have cl := C.lt; have cf := C.frozen; have HKX := Lib.hid (HK0.out.trans k1))
        have BW := (C.set_ 0 (.int .i64 2)).set_ 1 (.int .i64 0)
        have KF : Kept w ((w1.setCell ⟨w.heap.size, 0, none⟩ (.int .i64 2)).setCell ⟨w.heap.size, 1, none⟩ (.int .i64 0)) := by
          repeat refine Kept.setCell ?_ (by simp only; omega) _
          exact HKX.out
        generalize (w1.setCell ⟨w.heap.size, 0, none⟩ (.int .i64 2)).setCell ⟨w.heap.size, 1, none⟩ (.int .i64 0) = WW at *
        have bw := BW.cell
        exact bodyPost_ret (v := .tuple #[.agg #[.int .i64 2, .int .i64 0], .bool (true)]) (by simp [results, Tryz.results137, go_sem, bw]) rfl ⟨_, _, _, rfl, KF⟩
      · have e1 : (a == 2) = false := by simpa using h1
        go_enter Tryz.func137, Tryz.ntmps137
        go_wp2_with (go_at_call 134; refine (HK.out _ _).mono ?_; rintro e w1 ⟨rfl, k1⟩; have C := HB.out w1 k1; have cc := C.cell; have cl := C.lt; have cf := C.frozen; have HKX := Lib.hid (HK0.out.trans k1))
        have BW := (C.set_ 0 (.int .i64 a)).set_ 1 (.int .i64 0)
        have KF : Kept w ((w1.setCell ⟨w.heap.size, 0, none⟩ (.int .i64 a)).setCell ⟨w.heap.size, 1, none⟩ (.int .i64 0)) := by
          repeat refine Kept.setCell ?_ (by simp only; omega) _
          exact HKX.out
        generalize (w1.setCell ⟨w.heap.size, 0, none⟩ (.int .i64 a)).setCell ⟨w.heap.size, 1, none⟩ (.int .i64 0) = WW at *
        have bw := BW.cell
        exact bodyPost_ret (v := .tuple #[.agg #[.int .i64 a, .int .i64 0], .bool (false)]) (by simp [results, Tryz.results137, go_sem, bw]) rfl ⟨_, _, _, rfl, KF⟩
    · have e0 : (b == 2) = false := by simpa using hb
      go_enter Tryz.func137, Tryz.ntmps137
      go_wp2_with (go_at_call 134; refine (HK.out _ _).mono ?_; rintro e w1 ⟨rfl, k1⟩; have C := HB.out w1 k1; have cc := C.cell; have cl := C.lt; have cf := C.frozen; have HKX := Lib.hid (HK0.out.trans k1))
      have BW := (C.set_ 0 (.int .i64 a)).set_ 1 (.int .i64 0)
      have KF : Kept w ((w1.setCell ⟨w.heap.size, 0, none⟩ (.int .i64 a)).setCell ⟨w.heap.size, 1, none⟩ (.int .i64 0)) := by
        repeat refine Kept.setCell ?_ (by simp only; omega) _
        exact HKX.out
      generalize (w1.setCell ⟨w.heap.size, 0, none⟩ (.int .i64 a)).setCell ⟨w.heap.size, 1, none⟩ (.int .i64 0) = WW at *
      have bw := BW.cell
      exact bodyPost_ret (v := .tuple #[.agg #[.int .i64 a, .int .i64 0], .bool (false)]) (by simp [results, Tryz.results137, go_sem, bw]) rfl ⟨_, _, _, rfl, KF⟩
set_option maxRecDepth 100000 in
set_option maxHeartbeats 16000000 in
theorem rdouble_k (op ak ae bk be : Int) (hop : arS op = 2) (w : World) : Calls Tryz.prog 127 #[.int .i64 op, .agg #[.int .i64 ak, .int .i64 ae], .agg #[.int .i64 bk, .int .i64 be]] w (TyB w) := by
  have hops : op = 11 ∨ op = 12 ∨ op = 13 ∨ op = 14 ∨ op = 15 ∨ op = 16 ∨ op = 17 ∨ op = 18 ∨ op = 19 ∨ op = 20 ∨ op = 21 ∨ op = 22 ∨ op = 23 ∨ op = 24 ∨ op = 27 ∨ op = 28 ∨ op = 29 ∨ op = 30 := by
    unfold arS at hop
    split at hop
    · exact absurd hop (by decide)
    · split at hop
      · exact absurd hop (by decide)
      · split at hop
        · exact absurd hop (by decide)
        · split at hop
          · omega
          · exact absurd hop (by decide)
  clear hop
  have HK := Lib.hid (fun k w1 => rkind_k k w1)
  have HN := Lib.hid (fun k w1 => rnumber_k k w1)
  have HO := Lib.hid (fun k w1 => rordered_k k w1)
  have HSC := Lib.hid (fun op w1 => rscaled_k op ak bk w1)
  have W0 := Lib.hid (show ∃ W, W = ((w.alloc (.cells #[.int .i64 ak, .int .i64 ae] 47)).alloc (.cells #[.int .i64 bk, .int .i64 be] 47)).alloc (.cells #[.int .i64 0, .int .i64 0] 47) from ⟨_, rfl⟩)
  have K0 := Lib.hid ((((Kept.refl w).alloc (.cells #[.int .i64 ak, .int .i64 ae] 47)).alloc (.cells #[.int .i64 bk, .int .i64 be] 47)).alloc (.cells #[.int .i64 0, .int .i64 0] 47))
  clear W0
  rcases hops with rfl | rfl | rfl | rfl | rfl | rfl | rfl | rfl | rfl | rfl | rfl | rfl | rfl | rfl | rfl | rfl | rfl | rfl
  · -- 11
    by_cases h1 : ak = bk
    · subst h1
      have e1 : (ak == ak) = true := by simp
      have n1 : (ak != ak) = false := by simp
      by_cases h2 : ae = be
      · subst h2
        have e2 : (ae == ae) = true := by simp
        go_enter Tryz.func127, Tryz.ntmps127
        go_wp2_with fail
        obtain ⟨B1, B2, B3⟩ := (Kept.refl (((w.alloc (.cells #[.int .i64 ak, .int .i64 ae] 47)).alloc (.cells #[.int .i64 ak, .int .i64 ae] 47)).alloc (.cells #[.int .i64 0, .int .i64 0] 47))).blk3
        have KK := K0.out
        generalize ((w.alloc (.cells #[.int .i64 ak, .int .i64 ae] 47)).alloc (.cells #[.int .i64 ak, .int .i64 ae] 47)).alloc (.cells #[.int .i64 0, .int .i64 0] 47) = W at *
        have a0 := KG.cell (g := w.heap.size + 1 + 1) (T := 47) (by omega) B1.lt (B1.cell 0)
        have a1 := KG.cell (g := w.heap.size + 1 + 1) (T := 47) (by omega) B1.lt (B1.cell 1)
        have b0 := KG.cell (g := w.heap.size + 1 + 1) (T := 47) (by omega) B2.lt (B2.cell 0)
        have b1 := KG.cell (g := w.heap.size + 1 + 1) (T := 47) (by omega) B2.lt (B2.cell 1)
        try simp only [List.getElem?_toArray, List.getElem?_cons_zero, List.getElem?_cons_succ] at a0 a1 b0 b1
        have NE : Nonempty (KG W (w.heap.size + 1 + 1) 47) := KG.ne B3
        refine wp_region_store (C := fun w1 => ∃ x : KG W (w.heap.size + 1 + 1) 47, w1 = x.W) 9 _ (by kernel_rfl) (by kernel_rfl) rfl rfl (KG.start B3) ?_
        simp only [List.take_succ_cons, List.take_zero, List.drop_succ_cons, List.drop_zero]
        repeat (go_big_quiet_step (first | (go_at_call 134; exact KG.call (HK.out _ _)) | (go_at_call 136; exact KG.pure (HN.out _ _)) | (go_at_call 135; exact KG.pure (HO.out _ _))))
        refine wpQuiet_nil ?_
        refine ⟨rfl, KG.store rfl rfl rfl (by kernel_rfl), ?_⟩
        repeat (go_big_quiet_step (fail))
        refine wpQuiet_nil ?_
        rintro w5 ⟨x5, rfl⟩
        obtain ⟨k5, e5, h5⟩ := x5.own
        have KX := KG.kept KK (by omega) x5
        have bw := h5.cell
        go_wp2_with fail
        exact bodyPost_ret (v := .tuple #[.agg #[.int .i64 k5, .int .i64 e5], .bool (numB ak)]) (by simp [results, Tryz.results127, go_sem, bw]) rfl ⟨_, _, _, rfl, KX⟩
      · have e2 : (ae == be) = false := by simpa using h2
        go_enter Tryz.func127, Tryz.ntmps127
        go_wp2_with fail
        obtain ⟨B1, B2, B3⟩ := (Kept.refl (((w.alloc (.cells #[.int .i64 ak, .int .i64 ae] 47)).alloc (.cells #[.int .i64 ak, .int .i64 be] 47)).alloc (.cells #[.int .i64 0, .int .i64 0] 47))).blk3
        have KK := K0.out
        generalize ((w.alloc (.cells #[.int .i64 ak, .int .i64 ae] 47)).alloc (.cells #[.int .i64 ak, .int .i64 be] 47)).alloc (.cells #[.int .i64 0, .int .i64 0] 47) = W at *
        have a0 := KG.cell (g := w.heap.size + 1 + 1) (T := 47) (by omega) B1.lt (B1.cell 0)
        have a1 := KG.cell (g := w.heap.size + 1 + 1) (T := 47) (by omega) B1.lt (B1.cell 1)
        have b0 := KG.cell (g := w.heap.size + 1 + 1) (T := 47) (by omega) B2.lt (B2.cell 0)
        have b1 := KG.cell (g := w.heap.size + 1 + 1) (T := 47) (by omega) B2.lt (B2.cell 1)
        try simp only [List.getElem?_toArray, List.getElem?_cons_zero, List.getElem?_cons_succ] at a0 a1 b0 b1
        have NE : Nonempty (KG W (w.heap.size + 1 + 1) 47) := KG.ne B3
        refine wp_region_store (C := fun w1 => ∃ x : KG W (w.heap.size + 1 + 1) 47, w1 = x.W) 9 _ (by kernel_rfl) (by kernel_rfl) rfl rfl (KG.start B3) ?_
        simp only [List.take_succ_cons, List.take_zero, List.drop_succ_cons, List.drop_zero]
        repeat (go_big_quiet_step (first | (go_at_call 134; exact KG.call (HK.out _ _)) | (go_at_call 136; exact KG.pure (HN.out _ _)) | (go_at_call 135; exact KG.pure (HO.out _ _))))
        refine wpQuiet_nil ?_
        refine ⟨rfl, KG.store rfl rfl rfl (by kernel_rfl), ?_⟩
        repeat (go_big_quiet_step (fail))
        refine wpQuiet_nil ?_
        rintro w5 ⟨x5, rfl⟩
        obtain ⟨k5, e5, h5⟩ := x5.own
        have KX := KG.kept KK (by omega) x5
        have bw := h5.cell
        go_wp2_with fail
        exact bodyPost_ret (v := .tuple #[.agg #[.int .i64 k5, .int .i64 e5], .bool (false)]) (by simp [results, Tryz.results127, go_sem, bw]) rfl ⟨_, _, _, rfl, KX⟩
    · have e1 : (ak == bk) = false := by simpa using h1
      go_enter Tryz.func127, Tryz.ntmps127
      go_wp2_with fail
      obtain ⟨B1, B2, B3⟩ := (Kept.refl (((w.alloc (.cells #[.int .i64 ak, .int .i64 ae] 47)).alloc (.cells #[.int .i64 bk, .int .i64 be] 47)).alloc (.cells #[.int .i64 0, .int .i64 0] 47))).blk3
      have KK := K0.out
      generalize ((w.alloc (.cells #[.int .i64 ak, .int .i64 ae] 47)).alloc (.cells #[.int .i64 bk, .int .i64 be] 47)).alloc (.cells #[.int .i64 0, .int .i64 0] 47) = W at *
      have a0 := KG.cell (g := w.heap.size + 1 + 1) (T := 47) (by omega) B1.lt (B1.cell 0)
      have a1 := KG.cell (g := w.heap.size + 1 + 1) (T := 47) (by omega) B1.lt (B1.cell 1)
      have b0 := KG.cell (g := w.heap.size + 1 + 1) (T := 47) (by omega) B2.lt (B2.cell 0)
      have b1 := KG.cell (g := w.heap.size + 1 + 1) (T := 47) (by omega) B2.lt (B2.cell 1)
      try simp only [List.getElem?_toArray, List.getElem?_cons_zero, List.getElem?_cons_succ] at a0 a1 b0 b1
      have NE : Nonempty (KG W (w.heap.size + 1 + 1) 47) := KG.ne B3
      refine wp_region_store (C := fun w1 => ∃ x : KG W (w.heap.size + 1 + 1) 47, w1 = x.W) 9 _ (by kernel_rfl) (by kernel_rfl) rfl rfl (KG.start B3) ?_
      simp only [List.take_succ_cons, List.take_zero, List.drop_succ_cons, List.drop_zero]
      repeat (go_big_quiet_step (first | (go_at_call 134; exact KG.call (HK.out _ _)) | (go_at_call 136; exact KG.pure (HN.out _ _)) | (go_at_call 135; exact KG.pure (HO.out _ _))))
      refine wpQuiet_nil ?_
      refine ⟨rfl, KG.store rfl rfl rfl (by kernel_rfl), ?_⟩
      repeat (go_big_quiet_step (fail))
      refine wpQuiet_nil ?_
      rintro w5 ⟨x5, rfl⟩
      obtain ⟨k5, e5, h5⟩ := x5.own
      have KX := KG.kept KK (by omega) x5
      have bw := h5.cell
      go_wp2_with fail
      exact bodyPost_ret (v := .tuple #[.agg #[.int .i64 k5, .int .i64 e5], .bool (false)]) (by simp [results, Tryz.results127, go_sem, bw]) rfl ⟨_, _, _, rfl, KX⟩
  · -- 12
    by_cases h1 : ak = bk
    · subst h1
      have e1 : (ak == ak) = true := by simp
      have n1 : (ak != ak) = false := by simp
      by_cases h2 : ae = be
      · subst h2
        have e2 : (ae == ae) = true := by simp
        go_enter Tryz.func127, Tryz.ntmps127
        go_wp2_with fail
        obtain ⟨B1, B2, B3⟩ := (Kept.refl (((w.alloc (.cells #[.int .i64 ak, .int .i64 ae] 47)).alloc (.cells #[.int .i64 ak, .int .i64 ae] 47)).alloc (.cells #[.int .i64 0, .int .i64 0] 47))).blk3
        have KK := K0.out
        generalize ((w.alloc (.cells #[.int .i64 ak, .int .i64 ae] 47)).alloc (.cells #[.int .i64 ak, .int .i64 ae] 47)).alloc (.cells #[.int .i64 0, .int .i64 0] 47) = W at *
        have a0 := KG.cell (g := w.heap.size + 1 + 1) (T := 47) (by omega) B1.lt (B1.cell 0)
        have a1 := KG.cell (g := w.heap.size + 1 + 1) (T := 47) (by omega) B1.lt (B1.cell 1)
        have b0 := KG.cell (g := w.heap.size + 1 + 1) (T := 47) (by omega) B2.lt (B2.cell 0)
        have b1 := KG.cell (g := w.heap.size + 1 + 1) (T := 47) (by omega) B2.lt (B2.cell 1)
        try simp only [List.getElem?_toArray, List.getElem?_cons_zero, List.getElem?_cons_succ] at a0 a1 b0 b1
        have NE : Nonempty (KG W (w.heap.size + 1 + 1) 47) := KG.ne B3
        refine wp_region_store (C := fun w1 => ∃ x : KG W (w.heap.size + 1 + 1) 47, w1 = x.W) 9 _ (by kernel_rfl) (by kernel_rfl) rfl rfl (KG.start B3) ?_
        simp only [List.take_succ_cons, List.take_zero, List.drop_succ_cons, List.drop_zero]
        repeat (go_big_quiet_step (first | (go_at_call 134; exact KG.call (HK.out _ _)) | (go_at_call 136; exact KG.pure (HN.out _ _)) | (go_at_call 135; exact KG.pure (HO.out _ _))))
        refine wpQuiet_nil ?_
        refine ⟨rfl, KG.store rfl rfl rfl (by kernel_rfl), ?_⟩
        repeat (go_big_quiet_step (fail))
        refine wpQuiet_nil ?_
        rintro w5 ⟨x5, rfl⟩
        obtain ⟨k5, e5, h5⟩ := x5.own
        have KX := KG.kept KK (by omega) x5
        have bw := h5.cell
        go_wp2_with fail
        exact bodyPost_ret (v := .tuple #[.agg #[.int .i64 k5, .int .i64 e5], .bool (numB ak)]) (by simp [results, Tryz.results127, go_sem, bw]) rfl ⟨_, _, _, rfl, KX⟩
      · have e2 : (ae == be) = false := by simpa using h2
        go_enter Tryz.func127, Tryz.ntmps127
        go_wp2_with fail
        obtain ⟨B1, B2, B3⟩ := (Kept.refl (((w.alloc (.cells #[.int .i64 ak, .int .i64 ae] 47)).alloc (.cells #[.int .i64 ak, .int .i64 be] 47)).alloc (.cells #[.int .i64 0, .int .i64 0] 47))).blk3
        have KK := K0.out
        generalize ((w.alloc (.cells #[.int .i64 ak, .int .i64 ae] 47)).alloc (.cells #[.int .i64 ak, .int .i64 be] 47)).alloc (.cells #[.int .i64 0, .int .i64 0] 47) = W at *
        have a0 := KG.cell (g := w.heap.size + 1 + 1) (T := 47) (by omega) B1.lt (B1.cell 0)
        have a1 := KG.cell (g := w.heap.size + 1 + 1) (T := 47) (by omega) B1.lt (B1.cell 1)
        have b0 := KG.cell (g := w.heap.size + 1 + 1) (T := 47) (by omega) B2.lt (B2.cell 0)
        have b1 := KG.cell (g := w.heap.size + 1 + 1) (T := 47) (by omega) B2.lt (B2.cell 1)
        try simp only [List.getElem?_toArray, List.getElem?_cons_zero, List.getElem?_cons_succ] at a0 a1 b0 b1
        have NE : Nonempty (KG W (w.heap.size + 1 + 1) 47) := KG.ne B3
        refine wp_region_store (C := fun w1 => ∃ x : KG W (w.heap.size + 1 + 1) 47, w1 = x.W) 9 _ (by kernel_rfl) (by kernel_rfl) rfl rfl (KG.start B3) ?_
        simp only [List.take_succ_cons, List.take_zero, List.drop_succ_cons, List.drop_zero]
        repeat (go_big_quiet_step (first | (go_at_call 134; exact KG.call (HK.out _ _)) | (go_at_call 136; exact KG.pure (HN.out _ _)) | (go_at_call 135; exact KG.pure (HO.out _ _))))
        refine wpQuiet_nil ?_
        refine ⟨rfl, KG.store rfl rfl rfl (by kernel_rfl), ?_⟩
        repeat (go_big_quiet_step (fail))
        refine wpQuiet_nil ?_
        rintro w5 ⟨x5, rfl⟩
        obtain ⟨k5, e5, h5⟩ := x5.own
        have KX := KG.kept KK (by omega) x5
        have bw := h5.cell
        go_wp2_with fail
        exact bodyPost_ret (v := .tuple #[.agg #[.int .i64 k5, .int .i64 e5], .bool (false)]) (by simp [results, Tryz.results127, go_sem, bw]) rfl ⟨_, _, _, rfl, KX⟩
    · have e1 : (ak == bk) = false := by simpa using h1
      go_enter Tryz.func127, Tryz.ntmps127
      go_wp2_with fail
      obtain ⟨B1, B2, B3⟩ := (Kept.refl (((w.alloc (.cells #[.int .i64 ak, .int .i64 ae] 47)).alloc (.cells #[.int .i64 bk, .int .i64 be] 47)).alloc (.cells #[.int .i64 0, .int .i64 0] 47))).blk3
      have KK := K0.out
      generalize ((w.alloc (.cells #[.int .i64 ak, .int .i64 ae] 47)).alloc (.cells #[.int .i64 bk, .int .i64 be] 47)).alloc (.cells #[.int .i64 0, .int .i64 0] 47) = W at *
      have a0 := KG.cell (g := w.heap.size + 1 + 1) (T := 47) (by omega) B1.lt (B1.cell 0)
      have a1 := KG.cell (g := w.heap.size + 1 + 1) (T := 47) (by omega) B1.lt (B1.cell 1)
      have b0 := KG.cell (g := w.heap.size + 1 + 1) (T := 47) (by omega) B2.lt (B2.cell 0)
      have b1 := KG.cell (g := w.heap.size + 1 + 1) (T := 47) (by omega) B2.lt (B2.cell 1)
      try simp only [List.getElem?_toArray, List.getElem?_cons_zero, List.getElem?_cons_succ] at a0 a1 b0 b1
      have NE : Nonempty (KG W (w.heap.size + 1 + 1) 47) := KG.ne B3
      refine wp_region_store (C := fun w1 => ∃ x : KG W (w.heap.size + 1 + 1) 47, w1 = x.W) 9 _ (by kernel_rfl) (by kernel_rfl) rfl rfl (KG.start B3) ?_
      simp only [List.take_succ_cons, List.take_zero, List.drop_succ_cons, List.drop_zero]
      repeat (go_big_quiet_step (first | (go_at_call 134; exact KG.call (HK.out _ _)) | (go_at_call 136; exact KG.pure (HN.out _ _)) | (go_at_call 135; exact KG.pure (HO.out _ _))))
      refine wpQuiet_nil ?_
      refine ⟨rfl, KG.store rfl rfl rfl (by kernel_rfl), ?_⟩
      repeat (go_big_quiet_step (fail))
      refine wpQuiet_nil ?_
      rintro w5 ⟨x5, rfl⟩
      obtain ⟨k5, e5, h5⟩ := x5.own
      have KX := KG.kept KK (by omega) x5
      have bw := h5.cell
      go_wp2_with fail
      exact bodyPost_ret (v := .tuple #[.agg #[.int .i64 k5, .int .i64 e5], .bool (false)]) (by simp [results, Tryz.results127, go_sem, bw]) rfl ⟨_, _, _, rfl, KX⟩
  · -- 13
    go_enter Tryz.func127, Tryz.ntmps127
    go_wp2_with fail
    obtain ⟨B1, B2, B3⟩ := (Kept.refl (((w.alloc (.cells #[.int .i64 ak, .int .i64 ae] 47)).alloc (.cells #[.int .i64 bk, .int .i64 be] 47)).alloc (.cells #[.int .i64 0, .int .i64 0] 47))).blk3
    have KK := K0.out
    generalize ((w.alloc (.cells #[.int .i64 ak, .int .i64 ae] 47)).alloc (.cells #[.int .i64 bk, .int .i64 be] 47)).alloc (.cells #[.int .i64 0, .int .i64 0] 47) = W at *
    have c0 := B1.cell 0
    have c1 := B2.cell 0
    have cl1 := B1.lt
    have cl2 := B2.lt
    go_wp2_with (go_at_call 137; refine (HSC.out _ _).mono ?_; rintro e w1 ⟨k, e, b, rfl, k1⟩; have C := B3.kept k1; have cc := C.cell; have cl := C.lt; have cf := C.frozen; have HKX := Lib.hid (KK.trans k1))
    have BW := (C.set_ 0 (.int .i64 k)).set_ 1 (.int .i64 e)
    have KF : Kept w ((w1.setCell ⟨w.heap.size + 1 + 1, 0, none⟩ (.int .i64 k)).setCell ⟨w.heap.size + 1 + 1, 1, none⟩ (.int .i64 e)) := by
      repeat refine Kept.setCell ?_ (by simp only; omega) _
      exact HKX.out
    generalize (w1.setCell ⟨w.heap.size + 1 + 1, 0, none⟩ (.int .i64 k)).setCell ⟨w.heap.size + 1 + 1, 1, none⟩ (.int .i64 e) = WW at *
    have bw := BW.cell
    exact bodyPost_ret (v := .tuple #[.agg #[.int .i64 k, .int .i64 e], .bool (b)]) (by simp [results, Tryz.results127, go_sem, bw]) rfl ⟨_, _, _, rfl, KF⟩
  · -- 14
    go_enter Tryz.func127, Tryz.ntmps127
    go_wp2_with fail
    obtain ⟨B1, B2, B3⟩ := (Kept.refl (((w.alloc (.cells #[.int .i64 ak, .int .i64 ae] 47)).alloc (.cells #[.int .i64 bk, .int .i64 be] 47)).alloc (.cells #[.int .i64 0, .int .i64 0] 47))).blk3
    have KK := K0.out
    generalize ((w.alloc (.cells #[.int .i64 ak, .int .i64 ae] 47)).alloc (.cells #[.int .i64 bk, .int .i64 be] 47)).alloc (.cells #[.int .i64 0, .int .i64 0] 47) = W at *
    have c0 := B1.cell 0
    have c1 := B2.cell 0
    have cl1 := B1.lt
    have cl2 := B2.lt
    go_wp2_with (go_at_call 137; refine (HSC.out _ _).mono ?_; rintro e w1 ⟨k, e, b, rfl, k1⟩; have C := B3.kept k1; have cc := C.cell; have cl := C.lt; have cf := C.frozen; have HKX := Lib.hid (KK.trans k1))
    have BW := (C.set_ 0 (.int .i64 k)).set_ 1 (.int .i64 e)
    have KF : Kept w ((w1.setCell ⟨w.heap.size + 1 + 1, 0, none⟩ (.int .i64 k)).setCell ⟨w.heap.size + 1 + 1, 1, none⟩ (.int .i64 e)) := by
      repeat refine Kept.setCell ?_ (by simp only; omega) _
      exact HKX.out
    generalize (w1.setCell ⟨w.heap.size + 1 + 1, 0, none⟩ (.int .i64 k)).setCell ⟨w.heap.size + 1 + 1, 1, none⟩ (.int .i64 e) = WW at *
    have bw := BW.cell
    exact bodyPost_ret (v := .tuple #[.agg #[.int .i64 k, .int .i64 e], .bool (b)]) (by simp [results, Tryz.results127, go_sem, bw]) rfl ⟨_, _, _, rfl, KF⟩
  · -- 15
    go_enter Tryz.func127, Tryz.ntmps127
    go_wp2_with fail
    obtain ⟨B1, B2, B3⟩ := (Kept.refl (((w.alloc (.cells #[.int .i64 ak, .int .i64 ae] 47)).alloc (.cells #[.int .i64 bk, .int .i64 be] 47)).alloc (.cells #[.int .i64 0, .int .i64 0] 47))).blk3
    have KK := K0.out
    generalize ((w.alloc (.cells #[.int .i64 ak, .int .i64 ae] 47)).alloc (.cells #[.int .i64 bk, .int .i64 be] 47)).alloc (.cells #[.int .i64 0, .int .i64 0] 47) = W at *
    have c0 := B1.cell 0
    have c1 := B2.cell 0
    have cl1 := B1.lt
    have cl2 := B2.lt
    go_wp2_with (go_at_call 137; refine (HSC.out _ _).mono ?_; rintro e w1 ⟨k, e, b, rfl, k1⟩; have C := B3.kept k1; have cc := C.cell; have cl := C.lt; have cf := C.frozen; have HKX := Lib.hid (KK.trans k1))
    have BW := (C.set_ 0 (.int .i64 k)).set_ 1 (.int .i64 e)
    have KF : Kept w ((w1.setCell ⟨w.heap.size + 1 + 1, 0, none⟩ (.int .i64 k)).setCell ⟨w.heap.size + 1 + 1, 1, none⟩ (.int .i64 e)) := by
      repeat refine Kept.setCell ?_ (by simp only; omega) _
      exact HKX.out
    generalize (w1.setCell ⟨w.heap.size + 1 + 1, 0, none⟩ (.int .i64 k)).setCell ⟨w.heap.size + 1 + 1, 1, none⟩ (.int .i64 e) = WW at *
    have bw := BW.cell
    exact bodyPost_ret (v := .tuple #[.agg #[.int .i64 k, .int .i64 e], .bool (b)]) (by simp [results, Tryz.results127, go_sem, bw]) rfl ⟨_, _, _, rfl, KF⟩
  · -- 16
    by_cases h1 : ak = 3
    · subst h1
      go_enter Tryz.func127, Tryz.ntmps127
      go_wp2_with fail
      obtain ⟨B1, B2, B3⟩ := (Kept.refl (((w.alloc (.cells #[.int .i64 3, .int .i64 ae] 47)).alloc (.cells #[.int .i64 bk, .int .i64 be] 47)).alloc (.cells #[.int .i64 0, .int .i64 0] 47))).blk3
      have KK := K0.out
      generalize ((w.alloc (.cells #[.int .i64 3, .int .i64 ae] 47)).alloc (.cells #[.int .i64 bk, .int .i64 be] 47)).alloc (.cells #[.int .i64 0, .int .i64 0] 47) = W at *
      have a0 := KG.cell (g := w.heap.size + 1 + 1) (T := 47) (by omega) B1.lt (B1.cell 0)
      have a1 := KG.cell (g := w.heap.size + 1 + 1) (T := 47) (by omega) B1.lt (B1.cell 1)
      have b0 := KG.cell (g := w.heap.size + 1 + 1) (T := 47) (by omega) B2.lt (B2.cell 0)
      have b1 := KG.cell (g := w.heap.size + 1 + 1) (T := 47) (by omega) B2.lt (B2.cell 1)
      try simp only [List.getElem?_toArray, List.getElem?_cons_zero, List.getElem?_cons_succ] at a0 a1 b0 b1
      have NE : Nonempty (KG W (w.heap.size + 1 + 1) 47) := KG.ne B3
      refine wp_region_store (C := fun w1 => ∃ x : KG W (w.heap.size + 1 + 1) 47, w1 = x.W) 9 _ (by kernel_rfl) (by kernel_rfl) rfl rfl (KG.start B3) ?_
      simp only [List.take_succ_cons, List.take_zero, List.drop_succ_cons, List.drop_zero]
      repeat (go_big_quiet_step (first | (go_at_call 134; exact KG.call (HK.out _ _)) | (go_at_call 136; exact KG.pure (HN.out _ _)) | (go_at_call 135; exact KG.pure (HO.out _ _))))
      refine wpQuiet_nil ?_
      refine ⟨rfl, KG.store rfl rfl rfl (by kernel_rfl), ?_⟩
      repeat (go_big_quiet_step (fail))
      refine wpQuiet_nil ?_
      rintro w5 ⟨x5, rfl⟩
      obtain ⟨k5, e5, h5⟩ := x5.own
      have KX := KG.kept KK (by omega) x5
      have bw := h5.cell
      go_wp2_with fail
      exact bodyPost_ret (v := .tuple #[.agg #[.int .i64 k5, .int .i64 e5], .bool (bk == 3)]) (by simp [results, Tryz.results127, go_sem, bw]) rfl ⟨_, _, _, rfl, KX⟩
    · have e1 : (ak == 3) = false := by simpa using h1
      go_enter Tryz.func127, Tryz.ntmps127
      go_wp2_with fail
      obtain ⟨B1, B2, B3⟩ := (Kept.refl (((w.alloc (.cells #[.int .i64 ak, .int .i64 ae] 47)).alloc (.cells #[.int .i64 bk, .int .i64 be] 47)).alloc (.cells #[.int .i64 0, .int .i64 0] 47))).blk3
      have KK := K0.out
      generalize ((w.alloc (.cells #[.int .i64 ak, .int .i64 ae] 47)).alloc (.cells #[.int .i64 bk, .int .i64 be] 47)).alloc (.cells #[.int .i64 0, .int .i64 0] 47) = W at *
      have a0 := KG.cell (g := w.heap.size + 1 + 1) (T := 47) (by omega) B1.lt (B1.cell 0)
      have a1 := KG.cell (g := w.heap.size + 1 + 1) (T := 47) (by omega) B1.lt (B1.cell 1)
      have b0 := KG.cell (g := w.heap.size + 1 + 1) (T := 47) (by omega) B2.lt (B2.cell 0)
      have b1 := KG.cell (g := w.heap.size + 1 + 1) (T := 47) (by omega) B2.lt (B2.cell 1)
      try simp only [List.getElem?_toArray, List.getElem?_cons_zero, List.getElem?_cons_succ] at a0 a1 b0 b1
      have NE : Nonempty (KG W (w.heap.size + 1 + 1) 47) := KG.ne B3
      refine wp_region_store (C := fun w1 => ∃ x : KG W (w.heap.size + 1 + 1) 47, w1 = x.W) 9 _ (by kernel_rfl) (by kernel_rfl) rfl rfl (KG.start B3) ?_
      simp only [List.take_succ_cons, List.take_zero, List.drop_succ_cons, List.drop_zero]
      repeat (go_big_quiet_step (first | (go_at_call 134; exact KG.call (HK.out _ _)) | (go_at_call 136; exact KG.pure (HN.out _ _)) | (go_at_call 135; exact KG.pure (HO.out _ _))))
      refine wpQuiet_nil ?_
      refine ⟨rfl, KG.store rfl rfl rfl (by kernel_rfl), ?_⟩
      repeat (go_big_quiet_step (fail))
      refine wpQuiet_nil ?_
      rintro w5 ⟨x5, rfl⟩
      obtain ⟨k5, e5, h5⟩ := x5.own
      have KX := KG.kept KK (by omega) x5
      have bw := h5.cell
      go_wp2_with fail
      exact bodyPost_ret (v := .tuple #[.agg #[.int .i64 k5, .int .i64 e5], .bool (false)]) (by simp [results, Tryz.results127, go_sem, bw]) rfl ⟨_, _, _, rfl, KX⟩
  · -- 17
    by_cases h1 : ak = bk
    · subst h1
      have e1 : (ak == ak) = true := by simp
      have n1 : (ak != ak) = false := by simp
      by_cases h2 : ae = be
      · subst h2
        have e2 : (ae == ae) = true := by simp
        go_enter Tryz.func127, Tryz.ntmps127
        go_wp2_with fail
        obtain ⟨B1, B2, B3⟩ := (Kept.refl (((w.alloc (.cells #[.int .i64 ak, .int .i64 ae] 47)).alloc (.cells #[.int .i64 ak, .int .i64 ae] 47)).alloc (.cells #[.int .i64 0, .int .i64 0] 47))).blk3
        have KK := K0.out
        generalize ((w.alloc (.cells #[.int .i64 ak, .int .i64 ae] 47)).alloc (.cells #[.int .i64 ak, .int .i64 ae] 47)).alloc (.cells #[.int .i64 0, .int .i64 0] 47) = W at *
        have a0 := KG.cell (g := w.heap.size + 1 + 1) (T := 47) (by omega) B1.lt (B1.cell 0)
        have a1 := KG.cell (g := w.heap.size + 1 + 1) (T := 47) (by omega) B1.lt (B1.cell 1)
        have b0 := KG.cell (g := w.heap.size + 1 + 1) (T := 47) (by omega) B2.lt (B2.cell 0)
        have b1 := KG.cell (g := w.heap.size + 1 + 1) (T := 47) (by omega) B2.lt (B2.cell 1)
        try simp only [List.getElem?_toArray, List.getElem?_cons_zero, List.getElem?_cons_succ] at a0 a1 b0 b1
        have NE : Nonempty (KG W (w.heap.size + 1 + 1) 47) := KG.ne B3
        refine wp_region_store (C := fun w1 => ∃ x : KG W (w.heap.size + 1 + 1) 47, w1 = x.W) 9 _ (by kernel_rfl) (by kernel_rfl) rfl rfl (KG.start B3) ?_
        simp only [List.take_succ_cons, List.take_zero, List.drop_succ_cons, List.drop_zero]
        repeat (go_big_quiet_step (first | (go_at_call 134; exact KG.call (HK.out _ _)) | (go_at_call 136; exact KG.pure (HN.out _ _)) | (go_at_call 135; exact KG.pure (HO.out _ _))))
        refine wpQuiet_nil ?_
        refine ⟨rfl, KG.store rfl rfl rfl (by kernel_rfl), ?_⟩
        repeat (go_big_quiet_step (fail))
        refine wpQuiet_nil ?_
        rintro w5 ⟨x5, rfl⟩
        obtain ⟨k5, e5, h5⟩ := x5.own
        have KX := KG.kept KK (by omega) x5
        have bw := h5.cell
        go_wp2_with fail
        exact bodyPost_ret (v := .tuple #[.agg #[.int .i64 k5, .int .i64 e5], .bool (ordB ak)]) (by simp [results, Tryz.results127, go_sem, bw]) rfl ⟨_, _, _, rfl, KX⟩
      · have e2 : (ae == be) = false := by simpa using h2
        go_enter Tryz.func127, Tryz.ntmps127
        go_wp2_with fail
        obtain ⟨B1, B2, B3⟩ := (Kept.refl (((w.alloc (.cells #[.int .i64 ak, .int .i64 ae] 47)).alloc (.cells #[.int .i64 ak, .int .i64 be] 47)).alloc (.cells #[.int .i64 0, .int .i64 0] 47))).blk3
        have KK := K0.out
        generalize ((w.alloc (.cells #[.int .i64 ak, .int .i64 ae] 47)).alloc (.cells #[.int .i64 ak, .int .i64 be] 47)).alloc (.cells #[.int .i64 0, .int .i64 0] 47) = W at *
        have a0 := KG.cell (g := w.heap.size + 1 + 1) (T := 47) (by omega) B1.lt (B1.cell 0)
        have a1 := KG.cell (g := w.heap.size + 1 + 1) (T := 47) (by omega) B1.lt (B1.cell 1)
        have b0 := KG.cell (g := w.heap.size + 1 + 1) (T := 47) (by omega) B2.lt (B2.cell 0)
        have b1 := KG.cell (g := w.heap.size + 1 + 1) (T := 47) (by omega) B2.lt (B2.cell 1)
        try simp only [List.getElem?_toArray, List.getElem?_cons_zero, List.getElem?_cons_succ] at a0 a1 b0 b1
        have NE : Nonempty (KG W (w.heap.size + 1 + 1) 47) := KG.ne B3
        refine wp_region_store (C := fun w1 => ∃ x : KG W (w.heap.size + 1 + 1) 47, w1 = x.W) 9 _ (by kernel_rfl) (by kernel_rfl) rfl rfl (KG.start B3) ?_
        simp only [List.take_succ_cons, List.take_zero, List.drop_succ_cons, List.drop_zero]
        repeat (go_big_quiet_step (first | (go_at_call 134; exact KG.call (HK.out _ _)) | (go_at_call 136; exact KG.pure (HN.out _ _)) | (go_at_call 135; exact KG.pure (HO.out _ _))))
        refine wpQuiet_nil ?_
        refine ⟨rfl, KG.store rfl rfl rfl (by kernel_rfl), ?_⟩
        repeat (go_big_quiet_step (fail))
        refine wpQuiet_nil ?_
        rintro w5 ⟨x5, rfl⟩
        obtain ⟨k5, e5, h5⟩ := x5.own
        have KX := KG.kept KK (by omega) x5
        have bw := h5.cell
        go_wp2_with fail
        exact bodyPost_ret (v := .tuple #[.agg #[.int .i64 k5, .int .i64 e5], .bool (false)]) (by simp [results, Tryz.results127, go_sem, bw]) rfl ⟨_, _, _, rfl, KX⟩
    · have e1 : (ak == bk) = false := by simpa using h1
      go_enter Tryz.func127, Tryz.ntmps127
      go_wp2_with fail
      obtain ⟨B1, B2, B3⟩ := (Kept.refl (((w.alloc (.cells #[.int .i64 ak, .int .i64 ae] 47)).alloc (.cells #[.int .i64 bk, .int .i64 be] 47)).alloc (.cells #[.int .i64 0, .int .i64 0] 47))).blk3
      have KK := K0.out
      generalize ((w.alloc (.cells #[.int .i64 ak, .int .i64 ae] 47)).alloc (.cells #[.int .i64 bk, .int .i64 be] 47)).alloc (.cells #[.int .i64 0, .int .i64 0] 47) = W at *
      have a0 := KG.cell (g := w.heap.size + 1 + 1) (T := 47) (by omega) B1.lt (B1.cell 0)
      have a1 := KG.cell (g := w.heap.size + 1 + 1) (T := 47) (by omega) B1.lt (B1.cell 1)
      have b0 := KG.cell (g := w.heap.size + 1 + 1) (T := 47) (by omega) B2.lt (B2.cell 0)
      have b1 := KG.cell (g := w.heap.size + 1 + 1) (T := 47) (by omega) B2.lt (B2.cell 1)
      try simp only [List.getElem?_toArray, List.getElem?_cons_zero, List.getElem?_cons_succ] at a0 a1 b0 b1
      have NE : Nonempty (KG W (w.heap.size + 1 + 1) 47) := KG.ne B3
      refine wp_region_store (C := fun w1 => ∃ x : KG W (w.heap.size + 1 + 1) 47, w1 = x.W) 9 _ (by kernel_rfl) (by kernel_rfl) rfl rfl (KG.start B3) ?_
      simp only [List.take_succ_cons, List.take_zero, List.drop_succ_cons, List.drop_zero]
      repeat (go_big_quiet_step (first | (go_at_call 134; exact KG.call (HK.out _ _)) | (go_at_call 136; exact KG.pure (HN.out _ _)) | (go_at_call 135; exact KG.pure (HO.out _ _))))
      refine wpQuiet_nil ?_
      refine ⟨rfl, KG.store rfl rfl rfl (by kernel_rfl), ?_⟩
      repeat (go_big_quiet_step (fail))
      refine wpQuiet_nil ?_
      rintro w5 ⟨x5, rfl⟩
      obtain ⟨k5, e5, h5⟩ := x5.own
      have KX := KG.kept KK (by omega) x5
      have bw := h5.cell
      go_wp2_with fail
      exact bodyPost_ret (v := .tuple #[.agg #[.int .i64 k5, .int .i64 e5], .bool (false)]) (by simp [results, Tryz.results127, go_sem, bw]) rfl ⟨_, _, _, rfl, KX⟩
  · -- 18
    by_cases h1 : ak = bk
    · subst h1
      have e1 : (ak == ak) = true := by simp
      have n1 : (ak != ak) = false := by simp
      by_cases h2 : ae = be
      · subst h2
        have e2 : (ae == ae) = true := by simp
        go_enter Tryz.func127, Tryz.ntmps127
        go_wp2_with fail
        obtain ⟨B1, B2, B3⟩ := (Kept.refl (((w.alloc (.cells #[.int .i64 ak, .int .i64 ae] 47)).alloc (.cells #[.int .i64 ak, .int .i64 ae] 47)).alloc (.cells #[.int .i64 0, .int .i64 0] 47))).blk3
        have KK := K0.out
        generalize ((w.alloc (.cells #[.int .i64 ak, .int .i64 ae] 47)).alloc (.cells #[.int .i64 ak, .int .i64 ae] 47)).alloc (.cells #[.int .i64 0, .int .i64 0] 47) = W at *
        have a0 := KG.cell (g := w.heap.size + 1 + 1) (T := 47) (by omega) B1.lt (B1.cell 0)
        have a1 := KG.cell (g := w.heap.size + 1 + 1) (T := 47) (by omega) B1.lt (B1.cell 1)
        have b0 := KG.cell (g := w.heap.size + 1 + 1) (T := 47) (by omega) B2.lt (B2.cell 0)
        have b1 := KG.cell (g := w.heap.size + 1 + 1) (T := 47) (by omega) B2.lt (B2.cell 1)
        try simp only [List.getElem?_toArray, List.getElem?_cons_zero, List.getElem?_cons_succ] at a0 a1 b0 b1
        have NE : Nonempty (KG W (w.heap.size + 1 + 1) 47) := KG.ne B3
        refine wp_region_store (C := fun w1 => ∃ x : KG W (w.heap.size + 1 + 1) 47, w1 = x.W) 9 _ (by kernel_rfl) (by kernel_rfl) rfl rfl (KG.start B3) ?_
        simp only [List.take_succ_cons, List.take_zero, List.drop_succ_cons, List.drop_zero]
        repeat (go_big_quiet_step (first | (go_at_call 134; exact KG.call (HK.out _ _)) | (go_at_call 136; exact KG.pure (HN.out _ _)) | (go_at_call 135; exact KG.pure (HO.out _ _))))
        refine wpQuiet_nil ?_
        refine ⟨rfl, KG.store rfl rfl rfl (by kernel_rfl), ?_⟩
        repeat (go_big_quiet_step (fail))
        refine wpQuiet_nil ?_
        rintro w5 ⟨x5, rfl⟩
        obtain ⟨k5, e5, h5⟩ := x5.own
        have KX := KG.kept KK (by omega) x5
        have bw := h5.cell
        go_wp2_with fail
        exact bodyPost_ret (v := .tuple #[.agg #[.int .i64 k5, .int .i64 e5], .bool (ordB ak)]) (by simp [results, Tryz.results127, go_sem, bw]) rfl ⟨_, _, _, rfl, KX⟩
      · have e2 : (ae == be) = false := by simpa using h2
        go_enter Tryz.func127, Tryz.ntmps127
        go_wp2_with fail
        obtain ⟨B1, B2, B3⟩ := (Kept.refl (((w.alloc (.cells #[.int .i64 ak, .int .i64 ae] 47)).alloc (.cells #[.int .i64 ak, .int .i64 be] 47)).alloc (.cells #[.int .i64 0, .int .i64 0] 47))).blk3
        have KK := K0.out
        generalize ((w.alloc (.cells #[.int .i64 ak, .int .i64 ae] 47)).alloc (.cells #[.int .i64 ak, .int .i64 be] 47)).alloc (.cells #[.int .i64 0, .int .i64 0] 47) = W at *
        have a0 := KG.cell (g := w.heap.size + 1 + 1) (T := 47) (by omega) B1.lt (B1.cell 0)
        have a1 := KG.cell (g := w.heap.size + 1 + 1) (T := 47) (by omega) B1.lt (B1.cell 1)
        have b0 := KG.cell (g := w.heap.size + 1 + 1) (T := 47) (by omega) B2.lt (B2.cell 0)
        have b1 := KG.cell (g := w.heap.size + 1 + 1) (T := 47) (by omega) B2.lt (B2.cell 1)
        try simp only [List.getElem?_toArray, List.getElem?_cons_zero, List.getElem?_cons_succ] at a0 a1 b0 b1
        have NE : Nonempty (KG W (w.heap.size + 1 + 1) 47) := KG.ne B3
        refine wp_region_store (C := fun w1 => ∃ x : KG W (w.heap.size + 1 + 1) 47, w1 = x.W) 9 _ (by kernel_rfl) (by kernel_rfl) rfl rfl (KG.start B3) ?_
        simp only [List.take_succ_cons, List.take_zero, List.drop_succ_cons, List.drop_zero]
        repeat (go_big_quiet_step (first | (go_at_call 134; exact KG.call (HK.out _ _)) | (go_at_call 136; exact KG.pure (HN.out _ _)) | (go_at_call 135; exact KG.pure (HO.out _ _))))
        refine wpQuiet_nil ?_
        refine ⟨rfl, KG.store rfl rfl rfl (by kernel_rfl), ?_⟩
        repeat (go_big_quiet_step (fail))
        refine wpQuiet_nil ?_
        rintro w5 ⟨x5, rfl⟩
        obtain ⟨k5, e5, h5⟩ := x5.own
        have KX := KG.kept KK (by omega) x5
        have bw := h5.cell
        go_wp2_with fail
        exact bodyPost_ret (v := .tuple #[.agg #[.int .i64 k5, .int .i64 e5], .bool (false)]) (by simp [results, Tryz.results127, go_sem, bw]) rfl ⟨_, _, _, rfl, KX⟩
    · have e1 : (ak == bk) = false := by simpa using h1
      go_enter Tryz.func127, Tryz.ntmps127
      go_wp2_with fail
      obtain ⟨B1, B2, B3⟩ := (Kept.refl (((w.alloc (.cells #[.int .i64 ak, .int .i64 ae] 47)).alloc (.cells #[.int .i64 bk, .int .i64 be] 47)).alloc (.cells #[.int .i64 0, .int .i64 0] 47))).blk3
      have KK := K0.out
      generalize ((w.alloc (.cells #[.int .i64 ak, .int .i64 ae] 47)).alloc (.cells #[.int .i64 bk, .int .i64 be] 47)).alloc (.cells #[.int .i64 0, .int .i64 0] 47) = W at *
      have a0 := KG.cell (g := w.heap.size + 1 + 1) (T := 47) (by omega) B1.lt (B1.cell 0)
      have a1 := KG.cell (g := w.heap.size + 1 + 1) (T := 47) (by omega) B1.lt (B1.cell 1)
      have b0 := KG.cell (g := w.heap.size + 1 + 1) (T := 47) (by omega) B2.lt (B2.cell 0)
      have b1 := KG.cell (g := w.heap.size + 1 + 1) (T := 47) (by omega) B2.lt (B2.cell 1)
      try simp only [List.getElem?_toArray, List.getElem?_cons_zero, List.getElem?_cons_succ] at a0 a1 b0 b1
      have NE : Nonempty (KG W (w.heap.size + 1 + 1) 47) := KG.ne B3
      refine wp_region_store (C := fun w1 => ∃ x : KG W (w.heap.size + 1 + 1) 47, w1 = x.W) 9 _ (by kernel_rfl) (by kernel_rfl) rfl rfl (KG.start B3) ?_
      simp only [List.take_succ_cons, List.take_zero, List.drop_succ_cons, List.drop_zero]
      repeat (go_big_quiet_step (first | (go_at_call 134; exact KG.call (HK.out _ _)) | (go_at_call 136; exact KG.pure (HN.out _ _)) | (go_at_call 135; exact KG.pure (HO.out _ _))))
      refine wpQuiet_nil ?_
      refine ⟨rfl, KG.store rfl rfl rfl (by kernel_rfl), ?_⟩
      repeat (go_big_quiet_step (fail))
      refine wpQuiet_nil ?_
      rintro w5 ⟨x5, rfl⟩
      obtain ⟨k5, e5, h5⟩ := x5.own
      have KX := KG.kept KK (by omega) x5
      have bw := h5.cell
      go_wp2_with fail
      exact bodyPost_ret (v := .tuple #[.agg #[.int .i64 k5, .int .i64 e5], .bool (false)]) (by simp [results, Tryz.results127, go_sem, bw]) rfl ⟨_, _, _, rfl, KX⟩
  · -- 19
    by_cases h1 : ak = bk
    · subst h1
      have e1 : (ak == ak) = true := by simp
      have n1 : (ak != ak) = false := by simp
      by_cases h2 : ae = be
      · subst h2
        have e2 : (ae == ae) = true := by simp
        go_enter Tryz.func127, Tryz.ntmps127
        go_wp2_with fail
        obtain ⟨B1, B2, B3⟩ := (Kept.refl (((w.alloc (.cells #[.int .i64 ak, .int .i64 ae] 47)).alloc (.cells #[.int .i64 ak, .int .i64 ae] 47)).alloc (.cells #[.int .i64 0, .int .i64 0] 47))).blk3
        have KK := K0.out
        generalize ((w.alloc (.cells #[.int .i64 ak, .int .i64 ae] 47)).alloc (.cells #[.int .i64 ak, .int .i64 ae] 47)).alloc (.cells #[.int .i64 0, .int .i64 0] 47) = W at *
        have a0 := KG.cell (g := w.heap.size + 1 + 1) (T := 47) (by omega) B1.lt (B1.cell 0)
        have a1 := KG.cell (g := w.heap.size + 1 + 1) (T := 47) (by omega) B1.lt (B1.cell 1)
        have b0 := KG.cell (g := w.heap.size + 1 + 1) (T := 47) (by omega) B2.lt (B2.cell 0)
        have b1 := KG.cell (g := w.heap.size + 1 + 1) (T := 47) (by omega) B2.lt (B2.cell 1)
        try simp only [List.getElem?_toArray, List.getElem?_cons_zero, List.getElem?_cons_succ] at a0 a1 b0 b1
        have NE : Nonempty (KG W (w.heap.size + 1 + 1) 47) := KG.ne B3
        refine wp_region_store (C := fun w1 => ∃ x : KG W (w.heap.size + 1 + 1) 47, w1 = x.W) 4 _ (by kernel_rfl) (by kernel_rfl) rfl rfl (KG.start B3) ?_
        simp only [List.take_succ_cons, List.take_zero, List.drop_succ_cons, List.drop_zero]
        repeat (go_big_quiet_step (first | (go_at_call 134; exact KG.call (HK.out _ _)) | (go_at_call 136; exact KG.pure (HN.out _ _)) | (go_at_call 135; exact KG.pure (HO.out _ _))))
        refine wpQuiet_nil ?_
        refine ⟨rfl, KG.store rfl rfl rfl (by kernel_rfl), ?_⟩
        repeat (go_big_quiet_step (fail))
        refine wpQuiet_nil ?_
        rintro w5 ⟨x5, rfl⟩
        obtain ⟨k5, e5, h5⟩ := x5.own
        have KX := KG.kept KK (by omega) x5
        have bw := h5.cell
        go_wp2_with fail
        exact bodyPost_ret (v := .tuple #[.agg #[.int .i64 k5, .int .i64 e5], .bool (true)]) (by simp [results, Tryz.results127, go_sem, bw]) rfl ⟨_, _, _, rfl, KX⟩
      · have e2 : (ae == be) = false := by simpa using h2
        go_enter Tryz.func127, Tryz.ntmps127
        go_wp2_with fail
        obtain ⟨B1, B2, B3⟩ := (Kept.refl (((w.alloc (.cells #[.int .i64 ak, .int .i64 ae] 47)).alloc (.cells #[.int .i64 ak, .int .i64 be] 47)).alloc (.cells #[.int .i64 0, .int .i64 0] 47))).blk3
        have KK := K0.out
        generalize ((w.alloc (.cells #[.int .i64 ak, .int .i64 ae] 47)).alloc (.cells #[.int .i64 ak, .int .i64 be] 47)).alloc (.cells #[.int .i64 0, .int .i64 0] 47) = W at *
        have a0 := KG.cell (g := w.heap.size + 1 + 1) (T := 47) (by omega) B1.lt (B1.cell 0)
        have a1 := KG.cell (g := w.heap.size + 1 + 1) (T := 47) (by omega) B1.lt (B1.cell 1)
        have b0 := KG.cell (g := w.heap.size + 1 + 1) (T := 47) (by omega) B2.lt (B2.cell 0)
        have b1 := KG.cell (g := w.heap.size + 1 + 1) (T := 47) (by omega) B2.lt (B2.cell 1)
        try simp only [List.getElem?_toArray, List.getElem?_cons_zero, List.getElem?_cons_succ] at a0 a1 b0 b1
        have NE : Nonempty (KG W (w.heap.size + 1 + 1) 47) := KG.ne B3
        refine wp_region_store (C := fun w1 => ∃ x : KG W (w.heap.size + 1 + 1) 47, w1 = x.W) 4 _ (by kernel_rfl) (by kernel_rfl) rfl rfl (KG.start B3) ?_
        simp only [List.take_succ_cons, List.take_zero, List.drop_succ_cons, List.drop_zero]
        repeat (go_big_quiet_step (first | (go_at_call 134; exact KG.call (HK.out _ _)) | (go_at_call 136; exact KG.pure (HN.out _ _)) | (go_at_call 135; exact KG.pure (HO.out _ _))))
        refine wpQuiet_nil ?_
        refine ⟨rfl, KG.store rfl rfl rfl (by kernel_rfl), ?_⟩
        repeat (go_big_quiet_step (fail))
        refine wpQuiet_nil ?_
        rintro w5 ⟨x5, rfl⟩
        obtain ⟨k5, e5, h5⟩ := x5.own
        have KX := KG.kept KK (by omega) x5
        have bw := h5.cell
        go_wp2_with fail
        exact bodyPost_ret (v := .tuple #[.agg #[.int .i64 k5, .int .i64 e5], .bool (false)]) (by simp [results, Tryz.results127, go_sem, bw]) rfl ⟨_, _, _, rfl, KX⟩
    · have e1 : (ak == bk) = false := by simpa using h1
      go_enter Tryz.func127, Tryz.ntmps127
      go_wp2_with fail
      obtain ⟨B1, B2, B3⟩ := (Kept.refl (((w.alloc (.cells #[.int .i64 ak, .int .i64 ae] 47)).alloc (.cells #[.int .i64 bk, .int .i64 be] 47)).alloc (.cells #[.int .i64 0, .int .i64 0] 47))).blk3
      have KK := K0.out
      generalize ((w.alloc (.cells #[.int .i64 ak, .int .i64 ae] 47)).alloc (.cells #[.int .i64 bk, .int .i64 be] 47)).alloc (.cells #[.int .i64 0, .int .i64 0] 47) = W at *
      have a0 := KG.cell (g := w.heap.size + 1 + 1) (T := 47) (by omega) B1.lt (B1.cell 0)
      have a1 := KG.cell (g := w.heap.size + 1 + 1) (T := 47) (by omega) B1.lt (B1.cell 1)
      have b0 := KG.cell (g := w.heap.size + 1 + 1) (T := 47) (by omega) B2.lt (B2.cell 0)
      have b1 := KG.cell (g := w.heap.size + 1 + 1) (T := 47) (by omega) B2.lt (B2.cell 1)
      try simp only [List.getElem?_toArray, List.getElem?_cons_zero, List.getElem?_cons_succ] at a0 a1 b0 b1
      have NE : Nonempty (KG W (w.heap.size + 1 + 1) 47) := KG.ne B3
      refine wp_region_store (C := fun w1 => ∃ x : KG W (w.heap.size + 1 + 1) 47, w1 = x.W) 4 _ (by kernel_rfl) (by kernel_rfl) rfl rfl (KG.start B3) ?_
      simp only [List.take_succ_cons, List.take_zero, List.drop_succ_cons, List.drop_zero]
      repeat (go_big_quiet_step (first | (go_at_call 134; exact KG.call (HK.out _ _)) | (go_at_call 136; exact KG.pure (HN.out _ _)) | (go_at_call 135; exact KG.pure (HO.out _ _))))
      refine wpQuiet_nil ?_
      refine ⟨rfl, KG.store rfl rfl rfl (by kernel_rfl), ?_⟩
      repeat (go_big_quiet_step (fail))
      refine wpQuiet_nil ?_
      rintro w5 ⟨x5, rfl⟩
      obtain ⟨k5, e5, h5⟩ := x5.own
      have KX := KG.kept KK (by omega) x5
      have bw := h5.cell
      go_wp2_with fail
      exact bodyPost_ret (v := .tuple #[.agg #[.int .i64 k5, .int .i64 e5], .bool (false)]) (by simp [results, Tryz.results127, go_sem, bw]) rfl ⟨_, _, _, rfl, KX⟩
  · -- 20
    by_cases h1 : ak = bk
    · subst h1
      have e1 : (ak == ak) = true := by simp
      have n1 : (ak != ak) = false := by simp
      by_cases h2 : ae = be
      · subst h2
        have e2 : (ae == ae) = true := by simp
        go_enter Tryz.func127, Tryz.ntmps127
        go_wp2_with fail
        obtain ⟨B1, B2, B3⟩ := (Kept.refl (((w.alloc (.cells #[.int .i64 ak, .int .i64 ae] 47)).alloc (.cells #[.int .i64 ak, .int .i64 ae] 47)).alloc (.cells #[.int .i64 0, .int .i64 0] 47))).blk3
        have KK := K0.out
        generalize ((w.alloc (.cells #[.int .i64 ak, .int .i64 ae] 47)).alloc (.cells #[.int .i64 ak, .int .i64 ae] 47)).alloc (.cells #[.int .i64 0, .int .i64 0] 47) = W at *
        have a0 := KG.cell (g := w.heap.size + 1 + 1) (T := 47) (by omega) B1.lt (B1.cell 0)
        have a1 := KG.cell (g := w.heap.size + 1 + 1) (T := 47) (by omega) B1.lt (B1.cell 1)
        have b0 := KG.cell (g := w.heap.size + 1 + 1) (T := 47) (by omega) B2.lt (B2.cell 0)
        have b1 := KG.cell (g := w.heap.size + 1 + 1) (T := 47) (by omega) B2.lt (B2.cell 1)
        try simp only [List.getElem?_toArray, List.getElem?_cons_zero, List.getElem?_cons_succ] at a0 a1 b0 b1
        have NE : Nonempty (KG W (w.heap.size + 1 + 1) 47) := KG.ne B3
        refine wp_region_store (C := fun w1 => ∃ x : KG W (w.heap.size + 1 + 1) 47, w1 = x.W) 4 _ (by kernel_rfl) (by kernel_rfl) rfl rfl (KG.start B3) ?_
        simp only [List.take_succ_cons, List.take_zero, List.drop_succ_cons, List.drop_zero]
        repeat (go_big_quiet_step (first | (go_at_call 134; exact KG.call (HK.out _ _)) | (go_at_call 136; exact KG.pure (HN.out _ _)) | (go_at_call 135; exact KG.pure (HO.out _ _))))
        refine wpQuiet_nil ?_
        refine ⟨rfl, KG.store rfl rfl rfl (by kernel_rfl), ?_⟩
        repeat (go_big_quiet_step (fail))
        refine wpQuiet_nil ?_
        rintro w5 ⟨x5, rfl⟩
        obtain ⟨k5, e5, h5⟩ := x5.own
        have KX := KG.kept KK (by omega) x5
        have bw := h5.cell
        go_wp2_with fail
        exact bodyPost_ret (v := .tuple #[.agg #[.int .i64 k5, .int .i64 e5], .bool (true)]) (by simp [results, Tryz.results127, go_sem, bw]) rfl ⟨_, _, _, rfl, KX⟩
      · have e2 : (ae == be) = false := by simpa using h2
        go_enter Tryz.func127, Tryz.ntmps127
        go_wp2_with fail
        obtain ⟨B1, B2, B3⟩ := (Kept.refl (((w.alloc (.cells #[.int .i64 ak, .int .i64 ae] 47)).alloc (.cells #[.int .i64 ak, .int .i64 be] 47)).alloc (.cells #[.int .i64 0, .int .i64 0] 47))).blk3
        have KK := K0.out
        generalize ((w.alloc (.cells #[.int .i64 ak, .int .i64 ae] 47)).alloc (.cells #[.int .i64 ak, .int .i64 be] 47)).alloc (.cells #[.int .i64 0, .int .i64 0] 47) = W at *
        have a0 := KG.cell (g := w.heap.size + 1 + 1) (T := 47) (by omega) B1.lt (B1.cell 0)
        have a1 := KG.cell (g := w.heap.size + 1 + 1) (T := 47) (by omega) B1.lt (B1.cell 1)
        have b0 := KG.cell (g := w.heap.size + 1 + 1) (T := 47) (by omega) B2.lt (B2.cell 0)
        have b1 := KG.cell (g := w.heap.size + 1 + 1) (T := 47) (by omega) B2.lt (B2.cell 1)
        try simp only [List.getElem?_toArray, List.getElem?_cons_zero, List.getElem?_cons_succ] at a0 a1 b0 b1
        have NE : Nonempty (KG W (w.heap.size + 1 + 1) 47) := KG.ne B3
        refine wp_region_store (C := fun w1 => ∃ x : KG W (w.heap.size + 1 + 1) 47, w1 = x.W) 4 _ (by kernel_rfl) (by kernel_rfl) rfl rfl (KG.start B3) ?_
        simp only [List.take_succ_cons, List.take_zero, List.drop_succ_cons, List.drop_zero]
        repeat (go_big_quiet_step (first | (go_at_call 134; exact KG.call (HK.out _ _)) | (go_at_call 136; exact KG.pure (HN.out _ _)) | (go_at_call 135; exact KG.pure (HO.out _ _))))
        refine wpQuiet_nil ?_
        refine ⟨rfl, KG.store rfl rfl rfl (by kernel_rfl), ?_⟩
        repeat (go_big_quiet_step (fail))
        refine wpQuiet_nil ?_
        rintro w5 ⟨x5, rfl⟩
        obtain ⟨k5, e5, h5⟩ := x5.own
        have KX := KG.kept KK (by omega) x5
        have bw := h5.cell
        go_wp2_with fail
        exact bodyPost_ret (v := .tuple #[.agg #[.int .i64 k5, .int .i64 e5], .bool (false)]) (by simp [results, Tryz.results127, go_sem, bw]) rfl ⟨_, _, _, rfl, KX⟩
    · have e1 : (ak == bk) = false := by simpa using h1
      go_enter Tryz.func127, Tryz.ntmps127
      go_wp2_with fail
      obtain ⟨B1, B2, B3⟩ := (Kept.refl (((w.alloc (.cells #[.int .i64 ak, .int .i64 ae] 47)).alloc (.cells #[.int .i64 bk, .int .i64 be] 47)).alloc (.cells #[.int .i64 0, .int .i64 0] 47))).blk3
      have KK := K0.out
      generalize ((w.alloc (.cells #[.int .i64 ak, .int .i64 ae] 47)).alloc (.cells #[.int .i64 bk, .int .i64 be] 47)).alloc (.cells #[.int .i64 0, .int .i64 0] 47) = W at *
      have a0 := KG.cell (g := w.heap.size + 1 + 1) (T := 47) (by omega) B1.lt (B1.cell 0)
      have a1 := KG.cell (g := w.heap.size + 1 + 1) (T := 47) (by omega) B1.lt (B1.cell 1)
      have b0 := KG.cell (g := w.heap.size + 1 + 1) (T := 47) (by omega) B2.lt (B2.cell 0)
      have b1 := KG.cell (g := w.heap.size + 1 + 1) (T := 47) (by omega) B2.lt (B2.cell 1)
      try simp only [List.getElem?_toArray, List.getElem?_cons_zero, List.getElem?_cons_succ] at a0 a1 b0 b1
      have NE : Nonempty (KG W (w.heap.size + 1 + 1) 47) := KG.ne B3
      refine wp_region_store (C := fun w1 => ∃ x : KG W (w.heap.size + 1 + 1) 47, w1 = x.W) 4 _ (by kernel_rfl) (by kernel_rfl) rfl rfl (KG.start B3) ?_
      simp only [List.take_succ_cons, List.take_zero, List.drop_succ_cons, List.drop_zero]
      repeat (go_big_quiet_step (first | (go_at_call 134; exact KG.call (HK.out _ _)) | (go_at_call 136; exact KG.pure (HN.out _ _)) | (go_at_call 135; exact KG.pure (HO.out _ _))))
      refine wpQuiet_nil ?_
      refine ⟨rfl, KG.store rfl rfl rfl (by kernel_rfl), ?_⟩
      repeat (go_big_quiet_step (fail))
      refine wpQuiet_nil ?_
      rintro w5 ⟨x5, rfl⟩
      obtain ⟨k5, e5, h5⟩ := x5.own
      have KX := KG.kept KK (by omega) x5
      have bw := h5.cell
      go_wp2_with fail
      exact bodyPost_ret (v := .tuple #[.agg #[.int .i64 k5, .int .i64 e5], .bool (false)]) (by simp [results, Tryz.results127, go_sem, bw]) rfl ⟨_, _, _, rfl, KX⟩
  · -- 21
    by_cases h1 : ak = bk
    · subst h1
      have e1 : (ak == ak) = true := by simp
      have n1 : (ak != ak) = false := by simp
      by_cases h2 : ae = be
      · subst h2
        have e2 : (ae == ae) = true := by simp
        go_enter Tryz.func127, Tryz.ntmps127
        go_wp2_with fail
        obtain ⟨B1, B2, B3⟩ := (Kept.refl (((w.alloc (.cells #[.int .i64 ak, .int .i64 ae] 47)).alloc (.cells #[.int .i64 ak, .int .i64 ae] 47)).alloc (.cells #[.int .i64 0, .int .i64 0] 47))).blk3
        have KK := K0.out
        generalize ((w.alloc (.cells #[.int .i64 ak, .int .i64 ae] 47)).alloc (.cells #[.int .i64 ak, .int .i64 ae] 47)).alloc (.cells #[.int .i64 0, .int .i64 0] 47) = W at *
        have a0 := KG.cell (g := w.heap.size + 1 + 1) (T := 47) (by omega) B1.lt (B1.cell 0)
        have a1 := KG.cell (g := w.heap.size + 1 + 1) (T := 47) (by omega) B1.lt (B1.cell 1)
        have b0 := KG.cell (g := w.heap.size + 1 + 1) (T := 47) (by omega) B2.lt (B2.cell 0)
        have b1 := KG.cell (g := w.heap.size + 1 + 1) (T := 47) (by omega) B2.lt (B2.cell 1)
        try simp only [List.getElem?_toArray, List.getElem?_cons_zero, List.getElem?_cons_succ] at a0 a1 b0 b1
        have NE : Nonempty (KG W (w.heap.size + 1 + 1) 47) := KG.ne B3
        refine wp_region_store (C := fun w1 => ∃ x : KG W (w.heap.size + 1 + 1) 47, w1 = x.W) 9 _ (by kernel_rfl) (by kernel_rfl) rfl rfl (KG.start B3) ?_
        simp only [List.take_succ_cons, List.take_zero, List.drop_succ_cons, List.drop_zero]
        repeat (go_big_quiet_step (first | (go_at_call 134; exact KG.call (HK.out _ _)) | (go_at_call 136; exact KG.pure (HN.out _ _)) | (go_at_call 135; exact KG.pure (HO.out _ _))))
        refine wpQuiet_nil ?_
        refine ⟨rfl, KG.store rfl rfl rfl (by kernel_rfl), ?_⟩
        repeat (go_big_quiet_step (fail))
        refine wpQuiet_nil ?_
        rintro w5 ⟨x5, rfl⟩
        obtain ⟨k5, e5, h5⟩ := x5.own
        have KX := KG.kept KK (by omega) x5
        have bw := h5.cell
        go_wp2_with fail
        exact bodyPost_ret (v := .tuple #[.agg #[.int .i64 k5, .int .i64 e5], .bool (ordB ak)]) (by simp [results, Tryz.results127, go_sem, bw]) rfl ⟨_, _, _, rfl, KX⟩
      · have e2 : (ae == be) = false := by simpa using h2
        go_enter Tryz.func127, Tryz.ntmps127
        go_wp2_with fail
        obtain ⟨B1, B2, B3⟩ := (Kept.refl (((w.alloc (.cells #[.int .i64 ak, .int .i64 ae] 47)).alloc (.cells #[.int .i64 ak, .int .i64 be] 47)).alloc (.cells #[.int .i64 0, .int .i64 0] 47))).blk3
        have KK := K0.out
        generalize ((w.alloc (.cells #[.int .i64 ak, .int .i64 ae] 47)).alloc (.cells #[.int .i64 ak, .int .i64 be] 47)).alloc (.cells #[.int .i64 0, .int .i64 0] 47) = W at *
        have a0 := KG.cell (g := w.heap.size + 1 + 1) (T := 47) (by omega) B1.lt (B1.cell 0)
        have a1 := KG.cell (g := w.heap.size + 1 + 1) (T := 47) (by omega) B1.lt (B1.cell 1)
        have b0 := KG.cell (g := w.heap.size + 1 + 1) (T := 47) (by omega) B2.lt (B2.cell 0)
        have b1 := KG.cell (g := w.heap.size + 1 + 1) (T := 47) (by omega) B2.lt (B2.cell 1)
        try simp only [List.getElem?_toArray, List.getElem?_cons_zero, List.getElem?_cons_succ] at a0 a1 b0 b1
        have NE : Nonempty (KG W (w.heap.size + 1 + 1) 47) := KG.ne B3
        refine wp_region_store (C := fun w1 => ∃ x : KG W (w.heap.size + 1 + 1) 47, w1 = x.W) 9 _ (by kernel_rfl) (by kernel_rfl) rfl rfl (KG.start B3) ?_
        simp only [List.take_succ_cons, List.take_zero, List.drop_succ_cons, List.drop_zero]
        repeat (go_big_quiet_step (first | (go_at_call 134; exact KG.call (HK.out _ _)) | (go_at_call 136; exact KG.pure (HN.out _ _)) | (go_at_call 135; exact KG.pure (HO.out _ _))))
        refine wpQuiet_nil ?_
        refine ⟨rfl, KG.store rfl rfl rfl (by kernel_rfl), ?_⟩
        repeat (go_big_quiet_step (fail))
        refine wpQuiet_nil ?_
        rintro w5 ⟨x5, rfl⟩
        obtain ⟨k5, e5, h5⟩ := x5.own
        have KX := KG.kept KK (by omega) x5
        have bw := h5.cell
        go_wp2_with fail
        exact bodyPost_ret (v := .tuple #[.agg #[.int .i64 k5, .int .i64 e5], .bool (false)]) (by simp [results, Tryz.results127, go_sem, bw]) rfl ⟨_, _, _, rfl, KX⟩
    · have e1 : (ak == bk) = false := by simpa using h1
      go_enter Tryz.func127, Tryz.ntmps127
      go_wp2_with fail
      obtain ⟨B1, B2, B3⟩ := (Kept.refl (((w.alloc (.cells #[.int .i64 ak, .int .i64 ae] 47)).alloc (.cells #[.int .i64 bk, .int .i64 be] 47)).alloc (.cells #[.int .i64 0, .int .i64 0] 47))).blk3
      have KK := K0.out
      generalize ((w.alloc (.cells #[.int .i64 ak, .int .i64 ae] 47)).alloc (.cells #[.int .i64 bk, .int .i64 be] 47)).alloc (.cells #[.int .i64 0, .int .i64 0] 47) = W at *
      have a0 := KG.cell (g := w.heap.size + 1 + 1) (T := 47) (by omega) B1.lt (B1.cell 0)
      have a1 := KG.cell (g := w.heap.size + 1 + 1) (T := 47) (by omega) B1.lt (B1.cell 1)
      have b0 := KG.cell (g := w.heap.size + 1 + 1) (T := 47) (by omega) B2.lt (B2.cell 0)
      have b1 := KG.cell (g := w.heap.size + 1 + 1) (T := 47) (by omega) B2.lt (B2.cell 1)
      try simp only [List.getElem?_toArray, List.getElem?_cons_zero, List.getElem?_cons_succ] at a0 a1 b0 b1
      have NE : Nonempty (KG W (w.heap.size + 1 + 1) 47) := KG.ne B3
      refine wp_region_store (C := fun w1 => ∃ x : KG W (w.heap.size + 1 + 1) 47, w1 = x.W) 9 _ (by kernel_rfl) (by kernel_rfl) rfl rfl (KG.start B3) ?_
      simp only [List.take_succ_cons, List.take_zero, List.drop_succ_cons, List.drop_zero]
      repeat (go_big_quiet_step (first | (go_at_call 134; exact KG.call (HK.out _ _)) | (go_at_call 136; exact KG.pure (HN.out _ _)) | (go_at_call 135; exact KG.pure (HO.out _ _))))
      refine wpQuiet_nil ?_
      refine ⟨rfl, KG.store rfl rfl rfl (by kernel_rfl), ?_⟩
      repeat (go_big_quiet_step (fail))
      refine wpQuiet_nil ?_
      rintro w5 ⟨x5, rfl⟩
      obtain ⟨k5, e5, h5⟩ := x5.own
      have KX := KG.kept KK (by omega) x5
      have bw := h5.cell
      go_wp2_with fail
      exact bodyPost_ret (v := .tuple #[.agg #[.int .i64 k5, .int .i64 e5], .bool (false)]) (by simp [results, Tryz.results127, go_sem, bw]) rfl ⟨_, _, _, rfl, KX⟩
  · -- 22
    by_cases h1 : ak = bk
    · subst h1
      have e1 : (ak == ak) = true := by simp
      have n1 : (ak != ak) = false := by simp
      by_cases h2 : ae = be
      · subst h2
        have e2 : (ae == ae) = true := by simp
        go_enter Tryz.func127, Tryz.ntmps127
        go_wp2_with fail
        obtain ⟨B1, B2, B3⟩ := (Kept.refl (((w.alloc (.cells #[.int .i64 ak, .int .i64 ae] 47)).alloc (.cells #[.int .i64 ak, .int .i64 ae] 47)).alloc (.cells #[.int .i64 0, .int .i64 0] 47))).blk3
        have KK := K0.out
        generalize ((w.alloc (.cells #[.int .i64 ak, .int .i64 ae] 47)).alloc (.cells #[.int .i64 ak, .int .i64 ae] 47)).alloc (.cells #[.int .i64 0, .int .i64 0] 47) = W at *
        have a0 := KG.cell (g := w.heap.size + 1 + 1) (T := 47) (by omega) B1.lt (B1.cell 0)
        have a1 := KG.cell (g := w.heap.size + 1 + 1) (T := 47) (by omega) B1.lt (B1.cell 1)
        have b0 := KG.cell (g := w.heap.size + 1 + 1) (T := 47) (by omega) B2.lt (B2.cell 0)
        have b1 := KG.cell (g := w.heap.size + 1 + 1) (T := 47) (by omega) B2.lt (B2.cell 1)
        try simp only [List.getElem?_toArray, List.getElem?_cons_zero, List.getElem?_cons_succ] at a0 a1 b0 b1
        have NE : Nonempty (KG W (w.heap.size + 1 + 1) 47) := KG.ne B3
        refine wp_region_store (C := fun w1 => ∃ x : KG W (w.heap.size + 1 + 1) 47, w1 = x.W) 9 _ (by kernel_rfl) (by kernel_rfl) rfl rfl (KG.start B3) ?_
        simp only [List.take_succ_cons, List.take_zero, List.drop_succ_cons, List.drop_zero]
        repeat (go_big_quiet_step (first | (go_at_call 134; exact KG.call (HK.out _ _)) | (go_at_call 136; exact KG.pure (HN.out _ _)) | (go_at_call 135; exact KG.pure (HO.out _ _))))
        refine wpQuiet_nil ?_
        refine ⟨rfl, KG.store rfl rfl rfl (by kernel_rfl), ?_⟩
        repeat (go_big_quiet_step (fail))
        refine wpQuiet_nil ?_
        rintro w5 ⟨x5, rfl⟩
        obtain ⟨k5, e5, h5⟩ := x5.own
        have KX := KG.kept KK (by omega) x5
        have bw := h5.cell
        go_wp2_with fail
        exact bodyPost_ret (v := .tuple #[.agg #[.int .i64 k5, .int .i64 e5], .bool (ordB ak)]) (by simp [results, Tryz.results127, go_sem, bw]) rfl ⟨_, _, _, rfl, KX⟩
      · have e2 : (ae == be) = false := by simpa using h2
        go_enter Tryz.func127, Tryz.ntmps127
        go_wp2_with fail
        obtain ⟨B1, B2, B3⟩ := (Kept.refl (((w.alloc (.cells #[.int .i64 ak, .int .i64 ae] 47)).alloc (.cells #[.int .i64 ak, .int .i64 be] 47)).alloc (.cells #[.int .i64 0, .int .i64 0] 47))).blk3
        have KK := K0.out
        generalize ((w.alloc (.cells #[.int .i64 ak, .int .i64 ae] 47)).alloc (.cells #[.int .i64 ak, .int .i64 be] 47)).alloc (.cells #[.int .i64 0, .int .i64 0] 47) = W at *
        have a0 := KG.cell (g := w.heap.size + 1 + 1) (T := 47) (by omega) B1.lt (B1.cell 0)
        have a1 := KG.cell (g := w.heap.size + 1 + 1) (T := 47) (by omega) B1.lt (B1.cell 1)
        have b0 := KG.cell (g := w.heap.size + 1 + 1) (T := 47) (by omega) B2.lt (B2.cell 0)
        have b1 := KG.cell (g := w.heap.size + 1 + 1) (T := 47) (by omega) B2.lt (B2.cell 1)
        try simp only [List.getElem?_toArray, List.getElem?_cons_zero, List.getElem?_cons_succ] at a0 a1 b0 b1
        have NE : Nonempty (KG W (w.heap.size + 1 + 1) 47) := KG.ne B3
        refine wp_region_store (C := fun w1 => ∃ x : KG W (w.heap.size + 1 + 1) 47, w1 = x.W) 9 _ (by kernel_rfl) (by kernel_rfl) rfl rfl (KG.start B3) ?_
        simp only [List.take_succ_cons, List.take_zero, List.drop_succ_cons, List.drop_zero]
        repeat (go_big_quiet_step (first | (go_at_call 134; exact KG.call (HK.out _ _)) | (go_at_call 136; exact KG.pure (HN.out _ _)) | (go_at_call 135; exact KG.pure (HO.out _ _))))
        refine wpQuiet_nil ?_
        refine ⟨rfl, KG.store rfl rfl rfl (by kernel_rfl), ?_⟩
        repeat (go_big_quiet_step (fail))
        refine wpQuiet_nil ?_
        rintro w5 ⟨x5, rfl⟩
        obtain ⟨k5, e5, h5⟩ := x5.own
        have KX := KG.kept KK (by omega) x5
        have bw := h5.cell
        go_wp2_with fail
        exact bodyPost_ret (v := .tuple #[.agg #[.int .i64 k5, .int .i64 e5], .bool (false)]) (by simp [results, Tryz.results127, go_sem, bw]) rfl ⟨_, _, _, rfl, KX⟩
    · have e1 : (ak == bk) = false := by simpa using h1
      go_enter Tryz.func127, Tryz.ntmps127
      go_wp2_with fail
      obtain ⟨B1, B2, B3⟩ := (Kept.refl (((w.alloc (.cells #[.int .i64 ak, .int .i64 ae] 47)).alloc (.cells #[.int .i64 bk, .int .i64 be] 47)).alloc (.cells #[.int .i64 0, .int .i64 0] 47))).blk3
      have KK := K0.out
      generalize ((w.alloc (.cells #[.int .i64 ak, .int .i64 ae] 47)).alloc (.cells #[.int .i64 bk, .int .i64 be] 47)).alloc (.cells #[.int .i64 0, .int .i64 0] 47) = W at *
      have a0 := KG.cell (g := w.heap.size + 1 + 1) (T := 47) (by omega) B1.lt (B1.cell 0)
      have a1 := KG.cell (g := w.heap.size + 1 + 1) (T := 47) (by omega) B1.lt (B1.cell 1)
      have b0 := KG.cell (g := w.heap.size + 1 + 1) (T := 47) (by omega) B2.lt (B2.cell 0)
      have b1 := KG.cell (g := w.heap.size + 1 + 1) (T := 47) (by omega) B2.lt (B2.cell 1)
      try simp only [List.getElem?_toArray, List.getElem?_cons_zero, List.getElem?_cons_succ] at a0 a1 b0 b1
      have NE : Nonempty (KG W (w.heap.size + 1 + 1) 47) := KG.ne B3
      refine wp_region_store (C := fun w1 => ∃ x : KG W (w.heap.size + 1 + 1) 47, w1 = x.W) 9 _ (by kernel_rfl) (by kernel_rfl) rfl rfl (KG.start B3) ?_
      simp only [List.take_succ_cons, List.take_zero, List.drop_succ_cons, List.drop_zero]
      repeat (go_big_quiet_step (first | (go_at_call 134; exact KG.call (HK.out _ _)) | (go_at_call 136; exact KG.pure (HN.out _ _)) | (go_at_call 135; exact KG.pure (HO.out _ _))))
      refine wpQuiet_nil ?_
      refine ⟨rfl, KG.store rfl rfl rfl (by kernel_rfl), ?_⟩
      repeat (go_big_quiet_step (fail))
      refine wpQuiet_nil ?_
      rintro w5 ⟨x5, rfl⟩
      obtain ⟨k5, e5, h5⟩ := x5.own
      have KX := KG.kept KK (by omega) x5
      have bw := h5.cell
      go_wp2_with fail
      exact bodyPost_ret (v := .tuple #[.agg #[.int .i64 k5, .int .i64 e5], .bool (false)]) (by simp [results, Tryz.results127, go_sem, bw]) rfl ⟨_, _, _, rfl, KX⟩
  · -- 23
    by_cases h1 : ak = 1
    · subst h1
      go_enter Tryz.func127, Tryz.ntmps127
      go_wp2_with fail
      obtain ⟨B1, B2, B3⟩ := (Kept.refl (((w.alloc (.cells #[.int .i64 1, .int .i64 ae] 47)).alloc (.cells #[.int .i64 bk, .int .i64 be] 47)).alloc (.cells #[.int .i64 0, .int .i64 0] 47))).blk3
      have KK := K0.out
      generalize ((w.alloc (.cells #[.int .i64 1, .int .i64 ae] 47)).alloc (.cells #[.int .i64 bk, .int .i64 be] 47)).alloc (.cells #[.int .i64 0, .int .i64 0] 47) = W at *
      have a0 := KG.cell (g := w.heap.size + 1 + 1) (T := 47) (by omega) B1.lt (B1.cell 0)
      have a1 := KG.cell (g := w.heap.size + 1 + 1) (T := 47) (by omega) B1.lt (B1.cell 1)
      have b0 := KG.cell (g := w.heap.size + 1 + 1) (T := 47) (by omega) B2.lt (B2.cell 0)
      have b1 := KG.cell (g := w.heap.size + 1 + 1) (T := 47) (by omega) B2.lt (B2.cell 1)
      try simp only [List.getElem?_toArray, List.getElem?_cons_zero, List.getElem?_cons_succ] at a0 a1 b0 b1
      have NE : Nonempty (KG W (w.heap.size + 1 + 1) 47) := KG.ne B3
      refine wp_region_store (C := fun w1 => ∃ x : KG W (w.heap.size + 1 + 1) 47, w1 = x.W) 9 _ (by kernel_rfl) (by kernel_rfl) rfl rfl (KG.start B3) ?_
      simp only [List.take_succ_cons, List.take_zero, List.drop_succ_cons, List.drop_zero]
      repeat (go_big_quiet_step (first | (go_at_call 134; exact KG.call (HK.out _ _)) | (go_at_call 136; exact KG.pure (HN.out _ _)) | (go_at_call 135; exact KG.pure (HO.out _ _))))
      refine wpQuiet_nil ?_
      refine ⟨rfl, KG.store rfl rfl rfl (by kernel_rfl), ?_⟩
      repeat (go_big_quiet_step (fail))
      refine wpQuiet_nil ?_
      rintro w5 ⟨x5, rfl⟩
      obtain ⟨k5, e5, h5⟩ := x5.own
      have KX := KG.kept KK (by omega) x5
      have bw := h5.cell
      go_wp2_with fail
      exact bodyPost_ret (v := .tuple #[.agg #[.int .i64 k5, .int .i64 e5], .bool (bk == 1)]) (by simp [results, Tryz.results127, go_sem, bw]) rfl ⟨_, _, _, rfl, KX⟩
    · have e1 : (ak == 1) = false := by simpa using h1
      go_enter Tryz.func127, Tryz.ntmps127
      go_wp2_with fail
      obtain ⟨B1, B2, B3⟩ := (Kept.refl (((w.alloc (.cells #[.int .i64 ak, .int .i64 ae] 47)).alloc (.cells #[.int .i64 bk, .int .i64 be] 47)).alloc (.cells #[.int .i64 0, .int .i64 0] 47))).blk3
      have KK := K0.out
      generalize ((w.alloc (.cells #[.int .i64 ak, .int .i64 ae] 47)).alloc (.cells #[.int .i64 bk, .int .i64 be] 47)).alloc (.cells #[.int .i64 0, .int .i64 0] 47) = W at *
      have a0 := KG.cell (g := w.heap.size + 1 + 1) (T := 47) (by omega) B1.lt (B1.cell 0)
      have a1 := KG.cell (g := w.heap.size + 1 + 1) (T := 47) (by omega) B1.lt (B1.cell 1)
      have b0 := KG.cell (g := w.heap.size + 1 + 1) (T := 47) (by omega) B2.lt (B2.cell 0)
      have b1 := KG.cell (g := w.heap.size + 1 + 1) (T := 47) (by omega) B2.lt (B2.cell 1)
      try simp only [List.getElem?_toArray, List.getElem?_cons_zero, List.getElem?_cons_succ] at a0 a1 b0 b1
      have NE : Nonempty (KG W (w.heap.size + 1 + 1) 47) := KG.ne B3
      refine wp_region_store (C := fun w1 => ∃ x : KG W (w.heap.size + 1 + 1) 47, w1 = x.W) 9 _ (by kernel_rfl) (by kernel_rfl) rfl rfl (KG.start B3) ?_
      simp only [List.take_succ_cons, List.take_zero, List.drop_succ_cons, List.drop_zero]
      repeat (go_big_quiet_step (first | (go_at_call 134; exact KG.call (HK.out _ _)) | (go_at_call 136; exact KG.pure (HN.out _ _)) | (go_at_call 135; exact KG.pure (HO.out _ _))))
      refine wpQuiet_nil ?_
      refine ⟨rfl, KG.store rfl rfl rfl (by kernel_rfl), ?_⟩
      repeat (go_big_quiet_step (fail))
      refine wpQuiet_nil ?_
      rintro w5 ⟨x5, rfl⟩
      obtain ⟨k5, e5, h5⟩ := x5.own
      have KX := KG.kept KK (by omega) x5
      have bw := h5.cell
      go_wp2_with fail
      exact bodyPost_ret (v := .tuple #[.agg #[.int .i64 k5, .int .i64 e5], .bool (false)]) (by simp [results, Tryz.results127, go_sem, bw]) rfl ⟨_, _, _, rfl, KX⟩
  · -- 24
    by_cases h1 : ak = 1
    · subst h1
      go_enter Tryz.func127, Tryz.ntmps127
      go_wp2_with fail
      obtain ⟨B1, B2, B3⟩ := (Kept.refl (((w.alloc (.cells #[.int .i64 1, .int .i64 ae] 47)).alloc (.cells #[.int .i64 bk, .int .i64 be] 47)).alloc (.cells #[.int .i64 0, .int .i64 0] 47))).blk3
      have KK := K0.out
      generalize ((w.alloc (.cells #[.int .i64 1, .int .i64 ae] 47)).alloc (.cells #[.int .i64 bk, .int .i64 be] 47)).alloc (.cells #[.int .i64 0, .int .i64 0] 47) = W at *
      have a0 := KG.cell (g := w.heap.size + 1 + 1) (T := 47) (by omega) B1.lt (B1.cell 0)
      have a1 := KG.cell (g := w.heap.size + 1 + 1) (T := 47) (by omega) B1.lt (B1.cell 1)
      have b0 := KG.cell (g := w.heap.size + 1 + 1) (T := 47) (by omega) B2.lt (B2.cell 0)
      have b1 := KG.cell (g := w.heap.size + 1 + 1) (T := 47) (by omega) B2.lt (B2.cell 1)
      try simp only [List.getElem?_toArray, List.getElem?_cons_zero, List.getElem?_cons_succ] at a0 a1 b0 b1
      have NE : Nonempty (KG W (w.heap.size + 1 + 1) 47) := KG.ne B3
      refine wp_region_store (C := fun w1 => ∃ x : KG W (w.heap.size + 1 + 1) 47, w1 = x.W) 9 _ (by kernel_rfl) (by kernel_rfl) rfl rfl (KG.start B3) ?_
      simp only [List.take_succ_cons, List.take_zero, List.drop_succ_cons, List.drop_zero]
      repeat (go_big_quiet_step (first | (go_at_call 134; exact KG.call (HK.out _ _)) | (go_at_call 136; exact KG.pure (HN.out _ _)) | (go_at_call 135; exact KG.pure (HO.out _ _))))
      refine wpQuiet_nil ?_
      refine ⟨rfl, KG.store rfl rfl rfl (by kernel_rfl), ?_⟩
      repeat (go_big_quiet_step (fail))
      refine wpQuiet_nil ?_
      rintro w5 ⟨x5, rfl⟩
      obtain ⟨k5, e5, h5⟩ := x5.own
      have KX := KG.kept KK (by omega) x5
      have bw := h5.cell
      go_wp2_with fail
      exact bodyPost_ret (v := .tuple #[.agg #[.int .i64 k5, .int .i64 e5], .bool (bk == 1)]) (by simp [results, Tryz.results127, go_sem, bw]) rfl ⟨_, _, _, rfl, KX⟩
    · have e1 : (ak == 1) = false := by simpa using h1
      go_enter Tryz.func127, Tryz.ntmps127
      go_wp2_with fail
      obtain ⟨B1, B2, B3⟩ := (Kept.refl (((w.alloc (.cells #[.int .i64 ak, .int .i64 ae] 47)).alloc (.cells #[.int .i64 bk, .int .i64 be] 47)).alloc (.cells #[.int .i64 0, .int .i64 0] 47))).blk3
      have KK := K0.out
      generalize ((w.alloc (.cells #[.int .i64 ak, .int .i64 ae] 47)).alloc (.cells #[.int .i64 bk, .int .i64 be] 47)).alloc (.cells #[.int .i64 0, .int .i64 0] 47) = W at *
      have a0 := KG.cell (g := w.heap.size + 1 + 1) (T := 47) (by omega) B1.lt (B1.cell 0)
      have a1 := KG.cell (g := w.heap.size + 1 + 1) (T := 47) (by omega) B1.lt (B1.cell 1)
      have b0 := KG.cell (g := w.heap.size + 1 + 1) (T := 47) (by omega) B2.lt (B2.cell 0)
      have b1 := KG.cell (g := w.heap.size + 1 + 1) (T := 47) (by omega) B2.lt (B2.cell 1)
      try simp only [List.getElem?_toArray, List.getElem?_cons_zero, List.getElem?_cons_succ] at a0 a1 b0 b1
      have NE : Nonempty (KG W (w.heap.size + 1 + 1) 47) := KG.ne B3
      refine wp_region_store (C := fun w1 => ∃ x : KG W (w.heap.size + 1 + 1) 47, w1 = x.W) 9 _ (by kernel_rfl) (by kernel_rfl) rfl rfl (KG.start B3) ?_
      simp only [List.take_succ_cons, List.take_zero, List.drop_succ_cons, List.drop_zero]
      repeat (go_big_quiet_step (first | (go_at_call 134; exact KG.call (HK.out _ _)) | (go_at_call 136; exact KG.pure (HN.out _ _)) | (go_at_call 135; exact KG.pure (HO.out _ _))))
      refine wpQuiet_nil ?_
      refine ⟨rfl, KG.store rfl rfl rfl (by kernel_rfl), ?_⟩
      repeat (go_big_quiet_step (fail))
      refine wpQuiet_nil ?_
      rintro w5 ⟨x5, rfl⟩
      obtain ⟨k5, e5, h5⟩ := x5.own
      have KX := KG.kept KK (by omega) x5
      have bw := h5.cell
      go_wp2_with fail
      exact bodyPost_ret (v := .tuple #[.agg #[.int .i64 k5, .int .i64 e5], .bool (false)]) (by simp [results, Tryz.results127, go_sem, bw]) rfl ⟨_, _, _, rfl, KX⟩
  · -- 27
    by_cases h1 : ak = 5
    · subst h1
      go_enter Tryz.func127, Tryz.ntmps127
      go_wp2_with fail
      obtain ⟨B1, B2, B3⟩ := (Kept.refl (((w.alloc (.cells #[.int .i64 5, .int .i64 ae] 47)).alloc (.cells #[.int .i64 bk, .int .i64 be] 47)).alloc (.cells #[.int .i64 0, .int .i64 0] 47))).blk3
      have KK := K0.out
      generalize ((w.alloc (.cells #[.int .i64 5, .int .i64 ae] 47)).alloc (.cells #[.int .i64 bk, .int .i64 be] 47)).alloc (.cells #[.int .i64 0, .int .i64 0] 47) = W at *
      have a0 := KG.cell (g := w.heap.size + 1 + 1) (T := 47) (by omega) B1.lt (B1.cell 0)
      have a1 := KG.cell (g := w.heap.size + 1 + 1) (T := 47) (by omega) B1.lt (B1.cell 1)
      have b0 := KG.cell (g := w.heap.size + 1 + 1) (T := 47) (by omega) B2.lt (B2.cell 0)
      have b1 := KG.cell (g := w.heap.size + 1 + 1) (T := 47) (by omega) B2.lt (B2.cell 1)
      try simp only [List.getElem?_toArray, List.getElem?_cons_zero, List.getElem?_cons_succ] at a0 a1 b0 b1
      have NE : Nonempty (KG W (w.heap.size + 1 + 1) 47) := KG.ne B3
      refine wp_region_store (C := fun w1 => ∃ x : KG W (w.heap.size + 1 + 1) 47, w1 = x.W) 9 _ (by kernel_rfl) (by kernel_rfl) rfl rfl (KG.start B3) ?_
      simp only [List.take_succ_cons, List.take_zero, List.drop_succ_cons, List.drop_zero]
      repeat (go_big_quiet_step (first | (go_at_call 134; exact KG.call (HK.out _ _)) | (go_at_call 136; exact KG.pure (HN.out _ _)) | (go_at_call 135; exact KG.pure (HO.out _ _))))
      refine wpQuiet_nil ?_
      refine ⟨rfl, KG.store rfl rfl rfl (by kernel_rfl), ?_⟩
      repeat (go_big_quiet_step (fail))
      refine wpQuiet_nil ?_
      rintro w5 ⟨x5, rfl⟩
      obtain ⟨k5, e5, h5⟩ := x5.own
      have KX := KG.kept KK (by omega) x5
      have bw := h5.cell
      go_wp2_with fail
      exact bodyPost_ret (v := .tuple #[.agg #[.int .i64 k5, .int .i64 e5], .bool (bk == 2)]) (by simp [results, Tryz.results127, go_sem, bw]) rfl ⟨_, _, _, rfl, KX⟩
    · have e1 : (ak == 5) = false := by simpa using h1
      go_enter Tryz.func127, Tryz.ntmps127
      go_wp2_with fail
      obtain ⟨B1, B2, B3⟩ := (Kept.refl (((w.alloc (.cells #[.int .i64 ak, .int .i64 ae] 47)).alloc (.cells #[.int .i64 bk, .int .i64 be] 47)).alloc (.cells #[.int .i64 0, .int .i64 0] 47))).blk3
      have KK := K0.out
      generalize ((w.alloc (.cells #[.int .i64 ak, .int .i64 ae] 47)).alloc (.cells #[.int .i64 bk, .int .i64 be] 47)).alloc (.cells #[.int .i64 0, .int .i64 0] 47) = W at *
      have a0 := KG.cell (g := w.heap.size + 1 + 1) (T := 47) (by omega) B1.lt (B1.cell 0)
      have a1 := KG.cell (g := w.heap.size + 1 + 1) (T := 47) (by omega) B1.lt (B1.cell 1)
      have b0 := KG.cell (g := w.heap.size + 1 + 1) (T := 47) (by omega) B2.lt (B2.cell 0)
      have b1 := KG.cell (g := w.heap.size + 1 + 1) (T := 47) (by omega) B2.lt (B2.cell 1)
      try simp only [List.getElem?_toArray, List.getElem?_cons_zero, List.getElem?_cons_succ] at a0 a1 b0 b1
      have NE : Nonempty (KG W (w.heap.size + 1 + 1) 47) := KG.ne B3
      refine wp_region_store (C := fun w1 => ∃ x : KG W (w.heap.size + 1 + 1) 47, w1 = x.W) 9 _ (by kernel_rfl) (by kernel_rfl) rfl rfl (KG.start B3) ?_
      simp only [List.take_succ_cons, List.take_zero, List.drop_succ_cons, List.drop_zero]
      repeat (go_big_quiet_step (first | (go_at_call 134; exact KG.call (HK.out _ _)) | (go_at_call 136; exact KG.pure (HN.out _ _)) | (go_at_call 135; exact KG.pure (HO.out _ _))))
      refine wpQuiet_nil ?_
      refine ⟨rfl, KG.store rfl rfl rfl (by kernel_rfl), ?_⟩
      repeat (go_big_quiet_step (fail))
      refine wpQuiet_nil ?_
      rintro w5 ⟨x5, rfl⟩
      obtain ⟨k5, e5, h5⟩ := x5.own
      have KX := KG.kept KK (by omega) x5
      have bw := h5.cell
      go_wp2_with fail
      exact bodyPost_ret (v := .tuple #[.agg #[.int .i64 k5, .int .i64 e5], .bool (false)]) (by simp [results, Tryz.results127, go_sem, bw]) rfl ⟨_, _, _, rfl, KX⟩
  · -- 28
    by_cases h1 : ak = 5
    · subst h1
      go_enter Tryz.func127, Tryz.ntmps127
      go_wp2_with fail
      obtain ⟨B1, B2, B3⟩ := (Kept.refl (((w.alloc (.cells #[.int .i64 5, .int .i64 ae] 47)).alloc (.cells #[.int .i64 bk, .int .i64 be] 47)).alloc (.cells #[.int .i64 0, .int .i64 0] 47))).blk3
      have KK := K0.out
      generalize ((w.alloc (.cells #[.int .i64 5, .int .i64 ae] 47)).alloc (.cells #[.int .i64 bk, .int .i64 be] 47)).alloc (.cells #[.int .i64 0, .int .i64 0] 47) = W at *
      have a0 := KG.cell (g := w.heap.size + 1 + 1) (T := 47) (by omega) B1.lt (B1.cell 0)
      have a1 := KG.cell (g := w.heap.size + 1 + 1) (T := 47) (by omega) B1.lt (B1.cell 1)
      have b0 := KG.cell (g := w.heap.size + 1 + 1) (T := 47) (by omega) B2.lt (B2.cell 0)
      have b1 := KG.cell (g := w.heap.size + 1 + 1) (T := 47) (by omega) B2.lt (B2.cell 1)
      try simp only [List.getElem?_toArray, List.getElem?_cons_zero, List.getElem?_cons_succ] at a0 a1 b0 b1
      have NE : Nonempty (KG W (w.heap.size + 1 + 1) 47) := KG.ne B3
      refine wp_region_store (C := fun w1 => ∃ x : KG W (w.heap.size + 1 + 1) 47, w1 = x.W) 9 _ (by kernel_rfl) (by kernel_rfl) rfl rfl (KG.start B3) ?_
      simp only [List.take_succ_cons, List.take_zero, List.drop_succ_cons, List.drop_zero]
      repeat (go_big_quiet_step (first | (go_at_call 134; exact KG.call (HK.out _ _)) | (go_at_call 136; exact KG.pure (HN.out _ _)) | (go_at_call 135; exact KG.pure (HO.out _ _))))
      refine wpQuiet_nil ?_
      refine ⟨rfl, KG.store rfl rfl rfl (by kernel_rfl), ?_⟩
      repeat (go_big_quiet_step (fail))
      refine wpQuiet_nil ?_
      rintro w5 ⟨x5, rfl⟩
      obtain ⟨k5, e5, h5⟩ := x5.own
      have KX := KG.kept KK (by omega) x5
      have bw := h5.cell
      go_wp2_with fail
      exact bodyPost_ret (v := .tuple #[.agg #[.int .i64 k5, .int .i64 e5], .bool (bk == 2)]) (by simp [results, Tryz.results127, go_sem, bw]) rfl ⟨_, _, _, rfl, KX⟩
    · have e1 : (ak == 5) = false := by simpa using h1
      go_enter Tryz.func127, Tryz.ntmps127
      go_wp2_with fail
      obtain ⟨B1, B2, B3⟩ := (Kept.refl (((w.alloc (.cells #[.int .i64 ak, .int .i64 ae] 47)).alloc (.cells #[.int .i64 bk, .int .i64 be] 47)).alloc (.cells #[.int .i64 0, .int .i64 0] 47))).blk3
      have KK := K0.out
      generalize ((w.alloc (.cells #[.int .i64 ak, .int .i64 ae] 47)).alloc (.cells #[.int .i64 bk, .int .i64 be] 47)).alloc (.cells #[.int .i64 0, .int .i64 0] 47) = W at *
      have a0 := KG.cell (g := w.heap.size + 1 + 1) (T := 47) (by omega) B1.lt (B1.cell 0)
      have a1 := KG.cell (g := w.heap.size + 1 + 1) (T := 47) (by omega) B1.lt (B1.cell 1)
      have b0 := KG.cell (g := w.heap.size + 1 + 1) (T := 47) (by omega) B2.lt (B2.cell 0)
      have b1 := KG.cell (g := w.heap.size + 1 + 1) (T := 47) (by omega) B2.lt (B2.cell 1)
      try simp only [List.getElem?_toArray, List.getElem?_cons_zero, List.getElem?_cons_succ] at a0 a1 b0 b1
      have NE : Nonempty (KG W (w.heap.size + 1 + 1) 47) := KG.ne B3
      refine wp_region_store (C := fun w1 => ∃ x : KG W (w.heap.size + 1 + 1) 47, w1 = x.W) 9 _ (by kernel_rfl) (by kernel_rfl) rfl rfl (KG.start B3) ?_
      simp only [List.take_succ_cons, List.take_zero, List.drop_succ_cons, List.drop_zero]
      repeat (go_big_quiet_step (first | (go_at_call 134; exact KG.call (HK.out _ _)) | (go_at_call 136; exact KG.pure (HN.out _ _)) | (go_at_call 135; exact KG.pure (HO.out _ _))))
      refine wpQuiet_nil ?_
      refine ⟨rfl, KG.store rfl rfl rfl (by kernel_rfl), ?_⟩
      repeat (go_big_quiet_step (fail))
      refine wpQuiet_nil ?_
      rintro w5 ⟨x5, rfl⟩
      obtain ⟨k5, e5, h5⟩ := x5.own
      have KX := KG.kept KK (by omega) x5
      have bw := h5.cell
      go_wp2_with fail
      exact bodyPost_ret (v := .tuple #[.agg #[.int .i64 k5, .int .i64 e5], .bool (false)]) (by simp [results, Tryz.results127, go_sem, bw]) rfl ⟨_, _, _, rfl, KX⟩
  · -- 29
    by_cases h1 : ak = 5
    · subst h1
      go_enter Tryz.func127, Tryz.ntmps127
      go_wp2_with fail
      obtain ⟨B1, B2, B3⟩ := (Kept.refl (((w.alloc (.cells #[.int .i64 5, .int .i64 ae] 47)).alloc (.cells #[.int .i64 bk, .int .i64 be] 47)).alloc (.cells #[.int .i64 0, .int .i64 0] 47))).blk3
      have KK := K0.out
      generalize ((w.alloc (.cells #[.int .i64 5, .int .i64 ae] 47)).alloc (.cells #[.int .i64 bk, .int .i64 be] 47)).alloc (.cells #[.int .i64 0, .int .i64 0] 47) = W at *
      have a0 := KG.cell (g := w.heap.size + 1 + 1) (T := 47) (by omega) B1.lt (B1.cell 0)
      have a1 := KG.cell (g := w.heap.size + 1 + 1) (T := 47) (by omega) B1.lt (B1.cell 1)
      have b0 := KG.cell (g := w.heap.size + 1 + 1) (T := 47) (by omega) B2.lt (B2.cell 0)
      have b1 := KG.cell (g := w.heap.size + 1 + 1) (T := 47) (by omega) B2.lt (B2.cell 1)
      try simp only [List.getElem?_toArray, List.getElem?_cons_zero, List.getElem?_cons_succ] at a0 a1 b0 b1
      have NE : Nonempty (KG W (w.heap.size + 1 + 1) 47) := KG.ne B3
      refine wp_region_store (C := fun w1 => ∃ x : KG W (w.heap.size + 1 + 1) 47, w1 = x.W) 9 _ (by kernel_rfl) (by kernel_rfl) rfl rfl (KG.start B3) ?_
      simp only [List.take_succ_cons, List.take_zero, List.drop_succ_cons, List.drop_zero]
      repeat (go_big_quiet_step (first | (go_at_call 134; exact KG.call (HK.out _ _)) | (go_at_call 136; exact KG.pure (HN.out _ _)) | (go_at_call 135; exact KG.pure (HO.out _ _))))
      refine wpQuiet_nil ?_
      refine ⟨rfl, KG.store rfl rfl rfl (by kernel_rfl), ?_⟩
      repeat (go_big_quiet_step (fail))
      refine wpQuiet_nil ?_
      rintro w5 ⟨x5, rfl⟩
      obtain ⟨k5, e5, h5⟩ := x5.own
      have KX := KG.kept KK (by omega) x5
      have bw := h5.cell
      go_wp2_with fail
      exact bodyPost_ret (v := .tuple #[.agg #[.int .i64 k5, .int .i64 e5], .bool (bk == 5)]) (by simp [results, Tryz.results127, go_sem, bw]) rfl ⟨_, _, _, rfl, KX⟩
    · have e1 : (ak == 5) = false := by simpa using h1
      go_enter Tryz.func127, Tryz.ntmps127
      go_wp2_with fail
      obtain ⟨B1, B2, B3⟩ := (Kept.refl (((w.alloc (.cells #[.int .i64 ak, .int .i64 ae] 47)).alloc (.cells #[.int .i64 bk, .int .i64 be] 47)).alloc (.cells #[.int .i64 0, .int .i64 0] 47))).blk3
      have KK := K0.out
      generalize ((w.alloc (.cells #[.int .i64 ak, .int .i64 ae] 47)).alloc (.cells #[.int .i64 bk, .int .i64 be] 47)).alloc (.cells #[.int .i64 0, .int .i64 0] 47) = W at *
      have a0 := KG.cell (g := w.heap.size + 1 + 1) (T := 47) (by omega) B1.lt (B1.cell 0)
      have a1 := KG.cell (g := w.heap.size + 1 + 1) (T := 47) (by omega) B1.lt (B1.cell 1)
      have b0 := KG.cell (g := w.heap.size + 1 + 1) (T := 47) (by omega) B2.lt (B2.cell 0)
      have b1 := KG.cell (g := w.heap.size + 1 + 1) (T := 47) (by omega) B2.lt (B2.cell 1)
      try simp only [List.getElem?_toArray, List.getElem?_cons_zero, List.getElem?_cons_succ] at a0 a1 b0 b1
      have NE : Nonempty (KG W (w.heap.size + 1 + 1) 47) := KG.ne B3
      refine wp_region_store (C := fun w1 => ∃ x : KG W (w.heap.size + 1 + 1) 47, w1 = x.W) 9 _ (by kernel_rfl) (by kernel_rfl) rfl rfl (KG.start B3) ?_
      simp only [List.take_succ_cons, List.take_zero, List.drop_succ_cons, List.drop_zero]
      repeat (go_big_quiet_step (first | (go_at_call 134; exact KG.call (HK.out _ _)) | (go_at_call 136; exact KG.pure (HN.out _ _)) | (go_at_call 135; exact KG.pure (HO.out _ _))))
      refine wpQuiet_nil ?_
      refine ⟨rfl, KG.store rfl rfl rfl (by kernel_rfl), ?_⟩
      repeat (go_big_quiet_step (fail))
      refine wpQuiet_nil ?_
      rintro w5 ⟨x5, rfl⟩
      obtain ⟨k5, e5, h5⟩ := x5.own
      have KX := KG.kept KK (by omega) x5
      have bw := h5.cell
      go_wp2_with fail
      exact bodyPost_ret (v := .tuple #[.agg #[.int .i64 k5, .int .i64 e5], .bool (false)]) (by simp [results, Tryz.results127, go_sem, bw]) rfl ⟨_, _, _, rfl, KX⟩
  · -- 30
    by_cases h1 : ak = 5
    · subst h1
      go_enter Tryz.func127, Tryz.ntmps127
      go_wp2_with fail
      obtain ⟨B1, B2, B3⟩ := (Kept.refl (((w.alloc (.cells #[.int .i64 5, .int .i64 ae] 47)).alloc (.cells #[.int .i64 bk, .int .i64 be] 47)).alloc (.cells #[.int .i64 0, .int .i64 0] 47))).blk3
      have KK := K0.out
      generalize ((w.alloc (.cells #[.int .i64 5, .int .i64 ae] 47)).alloc (.cells #[.int .i64 bk, .int .i64 be] 47)).alloc (.cells #[.int .i64 0, .int .i64 0] 47) = W at *
      have a0 := KG.cell (g := w.heap.size + 1 + 1) (T := 47) (by omega) B1.lt (B1.cell 0)
      have a1 := KG.cell (g := w.heap.size + 1 + 1) (T := 47) (by omega) B1.lt (B1.cell 1)
      have b0 := KG.cell (g := w.heap.size + 1 + 1) (T := 47) (by omega) B2.lt (B2.cell 0)
      have b1 := KG.cell (g := w.heap.size + 1 + 1) (T := 47) (by omega) B2.lt (B2.cell 1)
      try simp only [List.getElem?_toArray, List.getElem?_cons_zero, List.getElem?_cons_succ] at a0 a1 b0 b1
      have NE : Nonempty (KG W (w.heap.size + 1 + 1) 47) := KG.ne B3
      refine wp_region_store (C := fun w1 => ∃ x : KG W (w.heap.size + 1 + 1) 47, w1 = x.W) 9 _ (by kernel_rfl) (by kernel_rfl) rfl rfl (KG.start B3) ?_
      simp only [List.take_succ_cons, List.take_zero, List.drop_succ_cons, List.drop_zero]
      repeat (go_big_quiet_step (first | (go_at_call 134; exact KG.call (HK.out _ _)) | (go_at_call 136; exact KG.pure (HN.out _ _)) | (go_at_call 135; exact KG.pure (HO.out _ _))))
      refine wpQuiet_nil ?_
      refine ⟨rfl, KG.store rfl rfl rfl (by kernel_rfl), ?_⟩
      repeat (go_big_quiet_step (fail))
      refine wpQuiet_nil ?_
      rintro w5 ⟨x5, rfl⟩
      obtain ⟨k5, e5, h5⟩ := x5.own
      have KX := KG.kept KK (by omega) x5
      have bw := h5.cell
      go_wp2_with fail
      exact bodyPost_ret (v := .tuple #[.agg #[.int .i64 k5, .int .i64 e5], .bool (bk == 5)]) (by simp [results, Tryz.results127, go_sem, bw]) rfl ⟨_, _, _, rfl, KX⟩
    · have e1 : (ak == 5) = false := by simpa using h1
      go_enter Tryz.func127, Tryz.ntmps127
      go_wp2_with fail
      obtain ⟨B1, B2, B3⟩ := (Kept.refl (((w.alloc (.cells #[.int .i64 ak, .int .i64 ae] 47)).alloc (.cells #[.int .i64 bk, .int .i64 be] 47)).alloc (.cells #[.int .i64 0, .int .i64 0] 47))).blk3
      have KK := K0.out
      generalize ((w.alloc (.cells #[.int .i64 ak, .int .i64 ae] 47)).alloc (.cells #[.int .i64 bk, .int .i64 be] 47)).alloc (.cells #[.int .i64 0, .int .i64 0] 47) = W at *
      have a0 := KG.cell (g := w.heap.size + 1 + 1) (T := 47) (by omega) B1.lt (B1.cell 0)
      have a1 := KG.cell (g := w.heap.size + 1 + 1) (T := 47) (by omega) B1.lt (B1.cell 1)
      have b0 := KG.cell (g := w.heap.size + 1 + 1) (T := 47) (by omega) B2.lt (B2.cell 0)
      have b1 := KG.cell (g := w.heap.size + 1 + 1) (T := 47) (by omega) B2.lt (B2.cell 1)
      try simp only [List.getElem?_toArray, List.getElem?_cons_zero, List.getElem?_cons_succ] at a0 a1 b0 b1
      have NE : Nonempty (KG W (w.heap.size + 1 + 1) 47) := KG.ne B3
      refine wp_region_store (C := fun w1 => ∃ x : KG W (w.heap.size + 1 + 1) 47, w1 = x.W) 9 _ (by kernel_rfl) (by kernel_rfl) rfl rfl (KG.start B3) ?_
      simp only [List.take_succ_cons, List.take_zero, List.drop_succ_cons, List.drop_zero]
      repeat (go_big_quiet_step (first | (go_at_call 134; exact KG.call (HK.out _ _)) | (go_at_call 136; exact KG.pure (HN.out _ _)) | (go_at_call 135; exact KG.pure (HO.out _ _))))
      refine wpQuiet_nil ?_
      refine ⟨rfl, KG.store rfl rfl rfl (by kernel_rfl), ?_⟩
      repeat (go_big_quiet_step (fail))
      refine wpQuiet_nil ?_
      rintro w5 ⟨x5, rfl⟩
      obtain ⟨k5, e5, h5⟩ := x5.own
      have KX := KG.kept KK (by omega) x5
      have bw := h5.cell
      go_wp2_with fail
      exact bodyPost_ret (v := .tuple #[.agg #[.int .i64 k5, .int .i64 e5], .bool (false)]) (by simp [results, Tryz.results127, go_sem, bw]) rfl ⟨_, _, _, rfl, KX⟩
end Go.Proofs.YtjeifmjcgemlgaaGreatDoor
