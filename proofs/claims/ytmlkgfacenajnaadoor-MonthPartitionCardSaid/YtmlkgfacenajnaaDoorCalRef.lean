/- What the reference of working days computes. -/
import Derived.Test.YtmlkgfacenajnaaDoorCalDay
namespace Go.Proofs.YtmlkgfacenajnaaDoor.Cal
open Go.RowKit

set_option maxHeartbeats 400000 in
theorem rday_any (d : Int) (w : World) :
    Calls Tryd.prog 91 #[.int .i64 d] w fun e w' => e = .returned (.bool (isDate d)) ∧ w = w' := by
  go_enter Tryd.func91, Tryd.ntmps91
  go_wp2
  all_goals (go_ret; exact ⟨ret_bool (by simp [isDate]; try omega), rfl⟩)
theorem rday_is {d : Int} {v : Bool} (w : World) (h : isDate d = v) : Calls Tryd.prog 91 #[.int .i64 d] w fun e w' => e = .returned (.bool v) ∧ w = w' := by
  rw [← h]; exact rday_any d w

set_option maxHeartbeats 800000 in
theorem rwvalid_any (wk : Int) (A : Option Addr) (n c : Nat) (hs : List Int) (w : World) (hr : Ints w A n hs) (hn : n ≤ 100) :
    Calls Tryd.prog 64 #[.agg #[.int .i64 wk, .slice A n c]] w fun e w' => e = .returned (.bool (vcalB wk hs)) ∧ Kept w w' := by
  have HL := Lib.hid hr.1
  by_cases hd : (0 ≤ wk ∧ wk ≤ 126) ∧ n ≤ 64
  · obtain ⟨⟨h0, h1⟩, h2⟩ := hd
    go_enter Tryd.func64, Tryd.ntmps64
    go_wp2_with fail
    go_loopw [3] (fun k wr => ∃ j : Nat, j ≤ n ∧ k = .int .i64 j ∧ (∀ q, q < j → isDate (hs[q]?.getD 0) = true ∧ (0 < q → hs[q - 1]?.getD 0 < hs[q]?.getD 0)) ∧ Kept (w.alloc (.cells #[.int .i64 wk, .slice A n c] 43)) wr) (fun k _ => n - (intOf k).toNat)
    case atStart => exact ⟨0, Nat.zero_le _, rfl, fun q hq => by omega, Kept.refl _⟩
    case round =>
      obtain ⟨j, hj, rfl, hq, hw⟩ := hrel
      have HQ := Lib.hid hq
      clear hq
      have c0 : wr.cell? ⟨w.heap.size, 0, none⟩ = some (.int .i64 wk) := hw.boxes1.1 0
      have c1 : wr.cell? ⟨w.heap.size, 1, none⟩ = some (.slice A n c) := hw.boxes1.1 1
      have c3 : w.heap.size < wr.heap.size := hw.boxes1.2
      have k1 := KW.cell (by omega) c1
      by_cases hlt : j < n
      · obtain ⟨b, off, rfl, hb, hc⟩ := ((hr.alloc _).kept hw).at_ hlt
        have hcell := KW.cell hb (hc j hlt)
        have hcell2 := KW.cell hb (hc (j - 1) (by omega))
        clear hc c0
        have i0 : (0 : Int) ≤ (j : Int) := by omega
        have i1 : (j : Int) < (n : Int) := by omega
        cases hdt : isDate (hs[j]?.getD 0)
        · go_wp2_with fail
          refine wp_region_kept (by kernel_rfl) (by kernel_rfl) ?_
          repeat (go_big_quiet_step ((go_at_call 91; exact KW.pure (rday_is _ hdt))))
          refine wpQuiet_nil ?_
          rintro _ ⟨⟨wx, hx⟩, rfl⟩
          go_wp2_with fail
          go_ret
          exact ⟨ret_bool (valid_date HL.out hlt hdt), (((Kept.refl _).alloc _).trans hw).trans hx⟩
        · by_cases hj0 : 0 < j
          · have i2 : (1 : Int) ≤ (j : Int) := by omega
            have i3 : (0 : Int) ≤ (j : Int) - 1 := by omega
            have hg1 : decide (0 < j) = true := by simpa using hj0
            by_cases ho : hs[j]?.getD 0 ≤ hs[j - 1]?.getD 0
            · have hg : decide (hs[j]?.getD 0 ≤ hs[j - 1]?.getD 0) = true := by simpa using ho
              go_wp2_with fail
              refine wp_region_kept (by kernel_rfl) (by kernel_rfl) ?_
              repeat (go_big_quiet_step ((go_at_call 91; exact KW.pure (rday_is _ hdt))))
              refine wpQuiet_nil ?_
              rintro _ ⟨⟨wx, hx⟩, rfl⟩
              go_wp2_with fail
              go_ret
              exact ⟨ret_bool (valid_order HL.out hlt hj0 ho), (((Kept.refl _).alloc _).trans hw).trans hx⟩
            · have hg : decide (hs[j]?.getD 0 ≤ hs[j - 1]?.getD 0) = false := by simpa using ho
              go_wp2_with fail
              refine wp_region_kept (by kernel_rfl) (by kernel_rfl) ?_
              repeat (go_big_quiet_step ((go_at_call 91; exact KW.pure (rday_is _ hdt))))
              refine wpQuiet_nil ?_
              rintro _ ⟨⟨wx, hx⟩, rfl⟩
              go_wp2_with fail
              go_roundw
              case rel => exact ⟨j + 1, by omega, by go_num, valid_next HQ.out hdt (fun h => by omega), hw.trans hx⟩
              case measure => simp [intOf]; omega
          · have hg1 : decide (0 < j) = false := by simpa using hj0
            go_wp2_with fail
            refine wp_region_kept (by kernel_rfl) (by kernel_rfl) ?_
            repeat (go_big_quiet_step ((go_at_call 91; exact KW.pure (rday_is _ hdt))))
            refine wpQuiet_nil ?_
            rintro _ ⟨⟨wx, hx⟩, rfl⟩
            go_wp2_with fail
            go_roundw
            case rel => exact ⟨j + 1, by omega, by go_num, valid_next HQ.out hdt (fun h => by omega), hw.trans hx⟩
            case measure => simp [intOf]; omega
      · go_wp2_with fail
        go_ret
        exact ⟨ret_bool (valid_done h0 h1 HL.out h2 (fun q hlt' => HQ.out q (by omega))), ((Kept.refl _).alloc _).trans hw⟩
  · go_enter Tryd.func64, Tryd.ntmps64
    go_wp2_with fail
    all_goals (go_ret; exact ⟨ret_bool (valid_head HL.out hd), (Kept.refl _).alloc _⟩)

/-- halving k times -/
theorem halve (wk : Int) (k : Nat) : wk / 2 ^ k / 2 = wk / 2 ^ (k + 1) := by
  rw [Int.ediv_ediv_of_nonneg (by exact Int.le_of_lt (Int.pow_pos (by omega))), Int.pow_succ]
theorem halve_bd (wk : Int) (k : Nat) (h0 : 0 ≤ wk) (h1 : wk ≤ 126) : 0 ≤ wk / 2 ^ k ∧ wk / 2 ^ k ≤ 126 := shr_le wk k h0 h1
theorem rwork_hit {hs : List Int} {d : Int} {j : Nat} (hj : j < hs.length) (h : (hs[j]?.getD 0 == d) = true) : holiday hs d = true :=
  (holiday_iff hs d).2 ⟨j, hj, by simpa using h⟩
theorem rwork_none {hs : List Int} {d : Int} {n : Nat} (hl : hs.length = n) (h : ∀ q, q < n → (hs[q]?.getD 0 == d) = false) : holiday hs d = false := by
  rw [Bool.eq_false_iff, Ne, holiday_iff]
  rintro ⟨i, hi, e⟩
  have := h i (by omega)
  simp [e] at this
theorem rwork_next {hs : List Int} {d : Int} {j : Nat} (hq : ∀ q, q < j → (hs[q]?.getD 0 == d) = false) (h : (hs[j]?.getD 0 == d) = false) : ∀ q, q < j + 1 → (hs[q]?.getD 0 == d) = false := by
  intro q hlt
  by_cases e : q = j
  · subst e; exact h
  · exact hq q (by omega)
set_option maxHeartbeats 400000 in
theorem rwork_any (wk : Int) (A : Option Addr) (n c : Nat) (hs : List Int) (d : Int) (w : World) (hr : Ints w A n hs) (hn : n ≤ 100) :
    Calls Tryd.prog 65 #[.agg #[.int .i64 wk, .slice A n c], .int .i64 d] w fun e w' => e = .returned (.bool (isWorkB wk hs d)) ∧ Kept w w' := by
  have HL := Lib.hid hr.1
  cases hv : vcalB wk hs
  · go_enter Tryd.func65, Tryd.ntmps65
    go_wp2_with (go_at_call 64; refine (rwvalid_any _ _ _ _ _ _ (hr.alloc _) hn).mono ?_; rintro e w' ⟨rfl, hk⟩)
    go_ret
    exact ⟨ret_bool (by simp [isWorkB, hv]), ((Kept.refl _).alloc _).trans hk⟩
  · cases hd : isDate d
    · go_enter Tryd.func65, Tryd.ntmps65
      go_wp2_with fail
      refine (rwvalid_any _ _ _ _ _ _ (hr.alloc _) hn).mono ?_
      rintro e w1 ⟨rfl, hk⟩
      go_wp2_with fail
      refine (rday_any _ _).mono ?_
      rintro e w2 ⟨rfl, rfl⟩
      go_wp2_with fail
      go_ret
      exact ⟨ret_bool (by simp [isWorkB, hd]), ((Kept.refl _).alloc _).trans hk⟩
    · have hdd := isDate_iff.1 hd
      have hvv := vcalB_iff.1 hv
      have g0 := hvv.1
      have g1 := hvv.2.1
      clear hvv
      have hd0 := hdd.1
      have hd1 := hdd.2
      go_enter Tryd.func65, Tryd.ntmps65
      go_wp2_with fail
      refine (rwvalid_any _ _ _ _ _ _ (hr.alloc _) hn).mono ?_
      rintro e w1 ⟨rfl, hk⟩
      go_wp2_with fail
      refine (rday_any _ _).mono ?_
      rintro e w2 ⟨rfl, rfl⟩
      have c0 : w1.cell? ⟨w.heap.size, 0, none⟩ = some (.int .i64 wk) := hk.boxes1.1 0
      have c1 : w1.cell? ⟨w.heap.size, 1, none⟩ = some (.slice A n c) := hk.boxes1.1 1
      go_wp2_with fail
      go_loop [5] (fun k => ∃ j : Nat, j ≤ n ∧ k = .int .i64 j ∧ (∀ q, q < j → (hs[q]?.getD 0 == d) = false)) (fun k => n - (intOf k).toNat)
      case atStart => exact ⟨0, Nat.zero_le _, rfl, fun q hq => by omega⟩
      case round =>
        obtain ⟨j, hj, rfl, hq⟩ := hrel
        have HQ := Lib.hid hq
        clear hq
        by_cases hlt : j < n
        · obtain ⟨b, off, rfl, hb, hc⟩ := ((hr.alloc _).kept hk).at_ hlt
          have hcell := hc j hlt
          clear hc
          cases he : (hs[j]?.getD 0 == d)
          · go_wp2_with fail
            go_round
            case rel => exact ⟨j + 1, by omega, by go_num, rwork_next HQ.out he⟩
            case measure => simp [intOf]; omega
          · go_wp2_with fail
            go_ret
            exact ⟨ret_bool (by simp [isWorkB, workB, rwork_hit (by have := HL.out; omega) he]), ((Kept.refl _).alloc _).trans hk⟩
        · obtain rfl : j = n := by omega
          have hhol := rwork_none HL.out HQ.out
          have HH := Lib.hid hhol
          clear hhol
          go_wp2_with fail
          go_loop [6, 7] (fun x k => ∃ i : Nat, i ≤ (d % 7).toNat ∧ k = .int .i64 i ∧ x = .int .i64 (wk / 2 ^ i)) (fun _ k => (d % 7).toNat - (intOf k).toNat)
          case atStart => exact ⟨0, Nat.zero_le _, rfl, by simp⟩
          case round =>
            obtain ⟨i, hi, rfl, rfl⟩ := hrel
            have hb := halve_bd wk i g0 g1
            by_cases hlt2 : (i : Int) < d % 7
            · go_wp2_with fail
              go_round
              case rel => exact ⟨i + 1, by omega, by go_num, by rw [halve wk i]⟩
              case measure => simp [intOf]; omega
            · obtain rfl : i = (d % 7).toNat := by omega
              cases hoff : (wk / 2 ^ (d % 7).toNat % 2 == 0)
              all_goals
                have hoff' : dayOff wk d = !(wk / 2 ^ (d % 7).toNat % 2 == 0) := rfl
                rw [hoff] at hoff'
                have HOFF := Lib.hid hoff'
                clear hoff'
                go_wp2_with fail
                go_ret
                exact ⟨ret_bool (by simp [isWorkB, workB, HH.out, HOFF.out, hv, hd]), ((Kept.refl _).alloc _).trans hk⟩
end Go.Proofs.YtmlkgfacenajnaaDoor.Cal
