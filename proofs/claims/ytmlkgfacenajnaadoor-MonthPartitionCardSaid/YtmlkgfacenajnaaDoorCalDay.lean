/- What the functions of package workday compute, each by one walk. -/
import Derived.Test.YtmlkgfacenajnaaDoorBase
import Derived.Test.YtmlkgfacenajnaaDoorCalM
namespace Go.Proofs.YtmlkgfacenajnaaDoor.Cal
open Go.RowKit

set_option maxHeartbeats 400000 in
theorem validDate_any (d : Int) (w : World) :
    Calls Tryd.prog 89 #[.int .i64 d] w fun e w' => e = .returned (.bool (isDate d)) ∧ w = w' := by
  go_enter Tryd.func89, Tryd.ntmps89
  go_wp2
  all_goals (go_ret; exact ⟨ret_bool (by simp [isDate]; try omega), rfl⟩)

set_option maxHeartbeats 400000 in
theorem weekday_any (d : Int) (w : World) (h0 : 0 ≤ d) (h1 : d ≤ 109572) :
    Calls Tryd.prog 110 #[.int .i64 d] w fun e w' => e = .returned (.int .i64 (d % 7)) ∧ w = w' := by
  go_enter Tryd.func110, Tryd.ntmps110
  go_wp2
  all_goals (go_ret; exact ⟨rfl, rfl⟩)

theorem valid_done {wk : Int} {hs : List Int} {n : Nat} (h0 : 0 ≤ wk) (h1 : wk ≤ 126) (hl : hs.length = n) (hn : n ≤ 64)
    (hq : ∀ q, q < n → isDate (hs[q]?.getD 0) = true ∧ (0 < q → hs[q - 1]?.getD 0 < hs[q]?.getD 0)) : true = vcalB wk hs :=
  (vcalB_iff.2 ⟨h0, h1, by omega, fun i hi => hq i (by omega)⟩).symm
theorem valid_date {wk : Int} {hs : List Int} {n j : Nat} (hl : hs.length = n) (hj : j < n) (h : isDate (hs[j]?.getD 0) = false) : false = vcalB wk hs :=
  (vcalB_no fun hv => by have := (hv.2.2.2 j (by omega)).1; rw [h] at this; cases this).symm
theorem valid_order {wk : Int} {hs : List Int} {n j : Nat} (hl : hs.length = n) (hj : j < n) (h0 : 0 < j) (h : hs[j]?.getD 0 ≤ hs[j - 1]?.getD 0) : false = vcalB wk hs :=
  (vcalB_no fun hv => by have := (hv.2.2.2 j (by omega)).2 h0; omega).symm
theorem valid_head {wk : Int} {hs : List Int} {n : Nat} (hl : hs.length = n) (h : ¬ ((0 ≤ wk ∧ wk ≤ 126) ∧ n ≤ 64)) : false = vcalB wk hs :=
  (vcalB_no fun hv => h ⟨⟨hv.1, hv.2.1⟩, by have := hv.2.2.1; omega⟩).symm
theorem valid_next {hs : List Int} {j : Nat} (hq : ∀ q, q < j → isDate (hs[q]?.getD 0) = true ∧ (0 < q → hs[q - 1]?.getD 0 < hs[q]?.getD 0))
    (h : isDate (hs[j]?.getD 0) = true) (h2 : 0 < j → hs[j - 1]?.getD 0 < hs[j]?.getD 0) : ∀ q, q < j + 1 → isDate (hs[q]?.getD 0) = true ∧ (0 < q → hs[q - 1]?.getD 0 < hs[q]?.getD 0) := by
  intro q hlt
  by_cases e : q = j
  · subst e; exact ⟨h, h2⟩
  · exact hq q (by omega)

set_option maxHeartbeats 400000 in
theorem wvalid_any (wk : Int) (A : Option Addr) (n c : Nat) (hs : List Int) (w : World) (hr : Ints w A n hs) (hn : n ≤ 100) :
    Calls Tryd.prog 62 #[.agg #[.int .i64 wk, .slice A n c]] w fun e w' => e = .returned (.bool (vcalB wk hs)) ∧ Kept w w' := by
  have HL := Lib.hid hr.1
  by_cases hd : (0 ≤ wk ∧ wk ≤ 126) ∧ n ≤ 64
  · obtain ⟨⟨h0, h1⟩, h2⟩ := hd
    go_enter Tryd.func62, Tryd.ntmps62
    go_wp2_with fail
    go_loop [3, 4, 22] (fun i v k => ∃ j : Nat, j ≤ n ∧ k = .int .i64 j ∧ ∀ q, q < j → isDate (hs[q]?.getD 0) = true ∧ (0 < q → hs[q - 1]?.getD 0 < hs[q]?.getD 0)) (fun _ _ k => n - (intOf k).toNat)
    case atStart => exact ⟨0, Nat.zero_le _, rfl, fun q hq => by omega⟩
    case round =>
      obtain ⟨j, hj, rfl, hq⟩ := hrel
      have HQ := Lib.hid hq
      clear hq
      by_cases hlt : j < n
      · obtain ⟨b, off, rfl, hb, hc⟩ := hr.at_ hlt
        have hcell := hc j hlt
        have hcell2 := hc (j - 1) (by omega)
        clear hc
        cases hdt : isDate (hs[j]?.getD 0)
        · go_wp2_with (go_at_call 89; refine (validDate_any _ _).mono ?_; rintro e w' ⟨rfl, rfl⟩)
          go_ret
          exact ⟨ret_bool (valid_date HL.out hlt hdt), (Kept.refl _).alloc _⟩
        · go_wp2_with (go_at_call 89; refine (validDate_any _ _).mono ?_; rintro e w' ⟨rfl, rfl⟩)
          · go_ret
            exact ⟨ret_bool (valid_order HL.out hlt (by assumption) (by assumption)), (Kept.refl _).alloc _⟩
          all_goals
            go_round
            case rel => exact ⟨j + 1, by omega, by go_num, valid_next HQ.out hdt (fun h => by first | assumption | omega)⟩
            case measure => simp [intOf]; omega
      · go_wp2_with fail
        go_ret
        exact ⟨ret_bool (valid_done h0 h1 HL.out h2 (fun q hlt' => HQ.out q (by omega))), (Kept.refl _).alloc _⟩
  · go_enter Tryd.func62, Tryd.ntmps62
    go_wp2_with fail
    all_goals (go_ret; exact ⟨ret_bool (valid_head HL.out hd), (Kept.refl _).alloc _⟩)

set_option maxHeartbeats 400000 in
theorem less_any (a b : Int) (w : World) :
    Calls Tryd.prog 124 #[.int .i64 a, .int .i64 b] w fun e w' => e = .returned (.bool (decide (a < b))) ∧ w = w' := by
  go_enter Tryd.func124, Tryd.ntmps124
  go_wp2
  all_goals (go_ret; exact ⟨ret_bool (by simp), rfl⟩)

theorem search_up {hs : List Int} {n m : Nat} {t : Int} (hl : hs.length = n) (hm : ∀ i j, i < j → j < hs.length → hs[i]?.getD 0 < hs[j]?.getD 0) (hmn : m < n) (h : hs[m]?.getD 0 < t) :
    ∀ i, i < m + 1 → hs[i]?.getD 0 < t := by
  intro i hi
  by_cases e : i = m
  · subst e; exact h
  · have := hm i m (by omega) (by omega); omega
theorem search_down {hs : List Int} {n m : Nat} {t : Int} (hl : hs.length = n) (hm : ∀ i j, i < j → j < hs.length → hs[i]?.getD 0 < hs[j]?.getD 0) (h : t ≤ hs[m]?.getD 0) :
    ∀ i, m ≤ i → i < n → t ≤ hs[i]?.getD 0 := by
  intro i hi hin
  by_cases e : i = m
  · subst e; exact h
  · have := hm m i (by omega) (by omega); omega
theorem search_end {hs : List Int} {n l : Nat} {t : Int} (hl : hs.length = n) (hm : ∀ i j, i < j → j < hs.length → hs[i]?.getD 0 < hs[j]?.getD 0)
    (h1 : ∀ i, i < l → hs[i]?.getD 0 < t) (h2 : ∀ i, l ≤ i → i < n → t ≤ hs[i]?.getD 0) : holiday hs t = (decide (l < n) && (hs[l]?.getD 0 == t)) := by
  rw [Bool.eq_iff_iff, holiday_iff]
  simp only [Bool.and_eq_true, decide_eq_true_eq, beq_iff_eq]
  constructor
  · rintro ⟨i, hi, e⟩
    have hil : l ≤ i := by
      rcases Nat.lt_or_ge i l with h | h
      · have := h1 i h; omega
      · exact h
    by_cases hil' : i = l
    · subst hil'; exact ⟨by omega, e⟩
    · have := hm l i (by omega) hi
      have := h2 l (Nat.le_refl _) (by omega)
      omega
  · rintro ⟨hi, e⟩; exact ⟨l, by omega, e⟩
theorem hl0 {l n : Nat} (h : l < n) : decide (l < n) = true := by simpa using h
theorem hl1 {l n : Nat} (h : ¬ l < n) : decide (l < n) = false := by simpa using h
/-- two results, the first one any integer -/
def SomeFirst (v : Value) (w : World) (e : Ending) (w' : World) : Prop := ∃ k : Int, e = .returned (.tuple #[.int .i64 k, v]) ∧ w = w'
set_option maxHeartbeats 400000 in
theorem search_any (A : Option Addr) (n c : Nat) (hs : List Int) (t : Int) (w : World) (hr : Ints w A n hs) (hn : n ≤ 100)
    (hm : ∀ i j, i < j → j < hs.length → hs[i]?.getD 0 < hs[j]?.getD 0) :
    Calls Tryd.prog 111 #[.slice A n c, .int .i64 t] w (SomeFirst (.bool (holiday hs t)) w) := by
  have HL := Lib.hid hr.1
  have HM := Lib.hid hm
  clear hm
  go_enter Tryd.func111, Tryd.ntmps111
  go_wp2_with fail
  go_loop [7, 8] (fun lo hi => ∃ l h : Nat, l ≤ h ∧ h ≤ n ∧ lo = .int .i64 l ∧ hi = .int .i64 h ∧ (∀ i, i < l → hs[i]?.getD 0 < t) ∧ ∀ i, h ≤ i → i < n → t ≤ hs[i]?.getD 0)
    (fun lo hi => (intOf hi).toNat - (intOf lo).toNat)
  case atStart => exact ⟨0, n, Nat.zero_le _, Nat.le_refl _, rfl, rfl, fun i hi => by omega, fun i hi hj => by omega⟩
  case round =>
    obtain ⟨l, h, hlh, hh, rfl, rfl, q1, q2⟩ := hrel
    have Q1 := Lib.hid q1
    have Q2 := Lib.hid q2
    clear q1 q2
    by_cases hlt : l < h
    · obtain ⟨b, off, rfl, hb, hc⟩ := hr.at_ (k := (l + h) / 2) (by omega)
      have hcell := hc ((l + h) / 2) (by omega)
      clear hc
      go_wp2_with (go_at_call 124; refine (less_any _ _ _).mono ?_; rintro e w' ⟨rfl, rfl⟩)
      · have hq : hs[(l + h) / 2]?.getD 0 < t := by assumption
        go_round
        case rel => exact ⟨(l + h) / 2 + 1, h, by omega, hh, by go_num, rfl, search_up HL.out HM.out (by omega) hq, Q2.out⟩
        case measure => simp only [intOf]; omega
      · have hq : t ≤ hs[(l + h) / 2]?.getD 0 := by assumption
        go_round
        case rel => exact ⟨l, (l + h) / 2, by omega, by omega, rfl, by go_num, Q1.out, search_down HL.out HM.out hq⟩
        case measure => simp only [intOf]; omega
    · obtain rfl : l = h := by omega
      clear hlh hlt
      by_cases hl : l < n
      · obtain ⟨b, off, rfl, hb, hc⟩ := hr.at_ hl
        have hcell := hc l hl
        clear hc
        cases heq : (hs[l]?.getD 0 == t)
        · go_wp2
          go_ret2
          exact ⟨_, by rw [search_end HL.out HM.out Q1.out (fun i hi => Q2.out i (by omega)), hl0 hl, heq]; rfl, rfl⟩
        · go_wp2
          go_ret2
          exact ⟨_, by rw [search_end HL.out HM.out Q1.out (fun i hi => Q2.out i (by omega)), hl0 hl, heq]; rfl, rfl⟩
      · go_wp2
        go_ret2
        exact ⟨_, by rw [search_end HL.out HM.out Q1.out (fun i hi => Q2.out i (by omega)), hl1 hl]; rfl, rfl⟩

set_option maxHeartbeats 400000 in
theorem works_any (wk : Int) (A : Option Addr) (n c : Nat) (hs : List Int) (d : Int) (w : World) (hr : Ints w A n hs) (hn : n ≤ 100) (hv : ValidCal wk hs) (hd0 : 0 ≤ d) (hd1 : d ≤ 109572) :
    Calls Tryd.prog 90 #[.agg #[.int .i64 wk, .slice A n c], .int .i64 d] w fun e w' => e = .returned (.bool (workB wk hs d)) ∧ Kept w w' := by
  have h0 := hv.1
  have h1 := hv.2.1
  have HM := Lib.hid hv.mono
  clear hv
  have hbit := bit_off wk d h0 h1
  cases hoff : dayOff wk d <;> rw [hoff] at hbit
  all_goals
    have HOFF := Lib.hid hoff
    clear hoff
    go_enter Tryd.func90, Tryd.ntmps90
    go_wp2_with fail
    go_quiet ((go_at_call 110; exact Calls.quiet_of_same (quiet_l (weekday_any _ _ hd0 hd1))))
    go_wp2_with (go_at_call 111; refine (search_any _ _ _ _ _ _ ((hr.alloc _).drewN _) hn HM.out).mono ?_; rintro e w' ⟨k, rfl, rfl⟩)
    go_ret
    exact ⟨ret_bool (by simp [workB, HOFF.out]), ((Kept.refl _).alloc _).drewN _⟩

theorem nth_ret {r : Int × Int} {a b : Int} (h : r = (a, b)) : Ending.returned (.tuple #[.int .i64 a, .int .i64 b]) = .returned (.tuple #[.int .i64 r.1, .int .i64 r.2]) := by rw [h]
set_option maxHeartbeats 400000 in
theorem isWork_any (wk : Int) (A : Option Addr) (n c : Nat) (hs : List Int) (d : Int) (w : World) (hr : Ints w A n hs) (hn : n ≤ 100) :
    Calls Tryd.prog 63 #[.agg #[.int .i64 wk, .slice A n c], .int .i64 d] w fun e w' => e = .returned (.bool (isWorkB wk hs d)) ∧ Kept w w' := by
  cases hv : vcalB wk hs
  · go_enter Tryd.func63, Tryd.ntmps63
    go_wp2_with (go_at_call 62; refine (wvalid_any _ _ _ _ _ _ (hr.alloc _) hn).mono ?_; rintro e w' ⟨rfl, hk⟩)
    go_ret
    exact ⟨ret_bool (by simp [isWorkB, hv]), ((Kept.refl _).alloc _).trans hk⟩
  · have HV := Lib.hid (vcalB_iff.1 hv)
    cases hd : isDate d
    · go_enter Tryd.func63, Tryd.ntmps63
      go_wp2_with (first | (go_at_call 62; refine (wvalid_any _ _ _ _ _ _ (hr.alloc _) hn).mono ?_; rintro e w' ⟨rfl, hk⟩) | (go_at_call 89; refine (validDate_any _ _).mono ?_; rintro e w' ⟨rfl, rfl⟩))
      go_ret
      exact ⟨ret_bool (by simp [isWorkB, hd]), ((Kept.refl _).alloc _).trans hk⟩
    · have hdd := isDate_iff.1 hd
      go_enter Tryd.func63, Tryd.ntmps63
      go_wp2_with (go_at_call 62; refine (wvalid_any _ _ _ _ _ _ (hr.alloc _) hn).mono ?_; rintro e w1 ⟨rfl, hk⟩)
      refine (validDate_any _ _).mono ?_
      rintro e w' ⟨rfl, rfl⟩
      have hbox := hk.cells
      go_wp2_with fail
      refine (works_any _ _ _ _ _ _ _ ((hr.alloc _).kept hk) hn HV.out hdd.1 hdd.2).mono ?_
      rintro e w2 ⟨rfl, hk2⟩
      go_wp2_with fail
      go_ret
      exact ⟨ret_bool (by simp [isWorkB, hv, hd]), (((Kept.refl _).alloc _).trans hk).trans hk2⟩
end Go.Proofs.YtmlkgfacenajnaaDoor.Cal
