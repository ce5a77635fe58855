/- What workday.Next, Add and Count compute. -/
import Derived.Test.YtpickiepkdkigaaDay
namespace Go.Proofs.Ytpickiepkdkigaa
open Go.RowKit

set_option maxHeartbeats 400000 in
theorem next_any (wk : Int) (A : Option Addr) (n c : Nat) (hs : List Int) (d : Int) (w : World) (hr : Ints w A n hs) (hn : n ≤ 100) :
    Calls Try.prog 13 #[.agg #[.int .i64 wk, .slice A n c], .int .i64 d] w fun e w' => e = .returned (.tuple #[.int .i64 (nextS wk hs d).1, .int .i64 (nextS wk hs d).2]) ∧ Kept w w' := by
  cases hv : vcalB wk hs
  · go_enter Try.func13, Try.ntmps13
    go_wp2_with (go_at_call 15; refine (wvalid_any _ _ _ _ _ _ (hr.alloc _) hn).mono ?_; rintro e w' ⟨rfl, hk⟩)
    go_ret2
    exact ⟨nth_ret (by simp [nextS, hv]), ((Kept.refl _).alloc _).trans hk⟩
  · have HV := Lib.hid (vcalB_iff.1 hv)
    cases hd : isDate d
    · go_enter Try.func13, Try.ntmps13
      go_wp2_with (go_at_call 15; refine (wvalid_any _ _ _ _ _ _ (hr.alloc _) hn).mono ?_; rintro e w1 ⟨rfl, hk⟩)
      refine (validDate_any _ _).mono ?_
      rintro e w' ⟨rfl, rfl⟩
      go_wp2_with fail
      go_ret2
      exact ⟨nth_ret (by simp [nextS, hv, hd]), ((Kept.refl _).alloc _).trans hk⟩
    · have hdd := isDate_iff.1 hd
      go_enter Try.func13, Try.ntmps13
      go_wp2_with (go_at_call 15; refine (wvalid_any _ _ _ _ _ _ (hr.alloc _) hn).mono ?_; rintro e w1 ⟨rfl, hk⟩)
      refine (validDate_any _ _).mono ?_
      rintro e w' ⟨rfl, rfl⟩
      have hbox := hk.cells
      go_wp2_with fail
      refine (nth_any _ _ _ _ _ _ _ _ ((hr.alloc _).kept hk) hn HV.out hdd.1 (by omega) (by omega) (by omega)).mono ?_
      rintro e w2 ⟨rfl, hk2⟩
      go_wp2_with fail
      go_ret2
      exact ⟨nth_ret (by simp [nextS, hv, hd]), (((Kept.refl _).alloc _).trans hk).trans hk2⟩

set_option maxHeartbeats 400000 in
theorem add_any (wk : Int) (A : Option Addr) (n c : Nat) (hs : List Int) (d k : Int) (w : World) (hr : Ints w A n hs) (hn : n ≤ 100) :
    Calls Try.prog 19 #[.agg #[.int .i64 wk, .slice A n c], .int .i64 d, .int .i64 k] w fun e w' => e = .returned (.tuple #[.int .i64 (addS wk hs d k).1, .int .i64 (addS wk hs d k).2]) ∧ Kept w w' := by
  cases hv : vcalB wk hs
  · go_enter Try.func19, Try.ntmps19
    go_wp2_with (go_at_call 15; refine (wvalid_any _ _ _ _ _ _ (hr.alloc _) hn).mono ?_; rintro e w' ⟨rfl, hk⟩)
    go_ret2
    exact ⟨nth_ret (by simp [addS, hv]), ((Kept.refl _).alloc _).trans hk⟩
  · have HV := Lib.hid (vcalB_iff.1 hv)
    by_cases hg : isDate d = true ∧ 0 ≤ k ∧ k ≤ 365
    · obtain ⟨hd, hk0, hk1⟩ := hg
      have hdd := isDate_iff.1 hd
      cases hz : (k == 0)
      · have hne : k ≠ 0 := by simpa using hz
        go_enter Try.func19, Try.ntmps19
        go_wp2_with (go_at_call 15; refine (wvalid_any _ _ _ _ _ _ (hr.alloc _) hn).mono ?_; rintro e w1 ⟨rfl, hk⟩)
        refine (validDate_any _ _).mono ?_
        rintro e w' ⟨rfl, rfl⟩
        have hbox := hk.cells
        go_wp2_with fail
        refine (nth_any _ _ _ _ _ _ _ _ ((hr.alloc _).kept hk) hn HV.out (by omega) (by omega) (by omega) (by omega)).mono ?_
        rintro e w2 ⟨rfl, hk2⟩
        go_wp2_with fail
        go_ret2
        exact ⟨nth_ret (by simp [addS, hv, hd, hk0, hk1, hne]), (((Kept.refl _).alloc _).trans hk).trans hk2⟩
      · have hne : k = 0 := by simpa using hz
        subst hne
        go_enter Try.func19, Try.ntmps19
        go_wp2_with (go_at_call 15; refine (wvalid_any _ _ _ _ _ _ (hr.alloc _) hn).mono ?_; rintro e w1 ⟨rfl, hk⟩)
        refine (validDate_any _ _).mono ?_
        rintro e w' ⟨rfl, rfl⟩
        have hbox := hk.cells
        go_wp2_with fail
        refine (next_any _ _ _ _ _ _ _ ((hr.alloc _).kept hk) hn).mono ?_
        rintro e w2 ⟨rfl, hk2⟩
        go_wp2_with fail
        go_ret2
        exact ⟨nth_ret (by simp [addS, hv, hd]), (((Kept.refl _).alloc _).trans hk).trans hk2⟩
    · have hres : addS wk hs d k = (0, 3) := by
        unfold addS
        rw [if_pos hv, if_neg (by simpa [and_assoc] using hg)]
      cases hd : isDate d
      · go_enter Try.func19, Try.ntmps19
        go_wp2_with (go_at_call 15; refine (wvalid_any _ _ _ _ _ _ (hr.alloc _) hn).mono ?_; rintro e w1 ⟨rfl, hk⟩)
        refine (validDate_any _ _).mono ?_
        rintro e w' ⟨rfl, rfl⟩
        go_wp2_with fail
        go_ret2
        exact ⟨nth_ret hres, ((Kept.refl _).alloc _).trans hk⟩
      · have hg' : k < 0 ∨ 365 < k := by
          rcases Int.lt_or_le k 0 with h | h
          · exact .inl h
          · exact .inr (by rcases Int.lt_or_le 365 k with h' | h'; exact h'; exact absurd ⟨hd, h, h'⟩ hg)
        have HR := Lib.hid hres
        clear hres hg
        rcases hg' with hg' | hg'
        all_goals
          go_enter Try.func19, Try.ntmps19
          go_wp2_with (go_at_call 15; refine (wvalid_any _ _ _ _ _ _ (hr.alloc _) hn).mono ?_; rintro e w1 ⟨rfl, hk⟩)
          refine (validDate_any _ _).mono ?_
          rintro e w' ⟨rfl, rfl⟩
          go_wp2_with fail
          go_ret2
          exact ⟨nth_ret HR.out, ((Kept.refl _).alloc _).trans hk⟩

set_option maxHeartbeats 400000 in
theorem rvalid_any (a b : Int) (w : World) :
    Calls Try.prog 36 #[.agg #[.int .i64 a, .int .i64 b]] w fun e w' => e = .returned (.bool (rangeB a b)) ∧ Kept w w' := by
  go_enter Try.func36, Try.ntmps36
  go_wp2
  all_goals (go_ret; exact ⟨ret_bool (by simp [rangeB]; try omega), (Kept.refl _).alloc _⟩)
def inB (a b d : Int) : Bool := rangeB a b && (decide (a ≤ d) && decide (d < b))
set_option maxHeartbeats 400000 in
theorem contains_any (a b d : Int) (w : World) :
    Calls Try.prog 38 #[.agg #[.int .i64 a, .int .i64 b], .int .i64 d] w fun e w' => e = .returned (.bool (inB a b d)) ∧ Kept w w' := by
  cases hv : rangeB a b
  · go_enter Try.func38, Try.ntmps38
    go_wp2_with (go_at_call 36; refine (rvalid_any _ _ _).mono ?_; rintro e w1 ⟨rfl, hk⟩)
    go_ret
    exact ⟨ret_bool (by simp [inB, hv]), ((Kept.refl _).alloc _).trans hk⟩
  · go_enter Try.func38, Try.ntmps38
    go_wp2_with fail
    refine (rvalid_any _ _ _).mono ?_
    rintro e w1 ⟨rfl, hk⟩
    have hbox := hk.cells
    go_wp2_with fail
    all_goals
      go_ret
      exact ⟨ret_bool (by simp [inB, hv]; try omega), ((Kept.refl _).alloc _).trans hk⟩
set_option maxHeartbeats 400000 in
theorem wdb_any (d k : Int) (w : World) (h0 : 0 ≤ d) (h1 : d ≤ 109573) (h2 : 0 ≤ k) (h3 : k < 7) :
    Calls Try.prog 37 #[.int .i64 d, .int .i64 k] w fun e w' => e = .returned (.int .i64 (wdb d k)) ∧ w = w' := by
  go_enter Try.func37, Try.ntmps37
  go_wp2
  go_ret
  exact ⟨rfl, rfl⟩

theorem inB_bd {a b d : Int} (h : inB a b d = true) : 0 ≤ d ∧ d ≤ 109572 := by
  simp [inB, rangeB] at h; omega
theorem bit_eqB (wk d : Int) (h0 : 0 ≤ wk) (h1 : wk ≤ 126) : (bits .and .i64 (wk / 2 ^ (d % 7).toNat) 1 == 0) = !dayOff wk d := by
  rw [bit_eq _ _ h0 h1]; unfold dayOff; rw [Bool.eq_iff_iff]; simp
theorem contains_is {a b d : Int} {v : Bool} (w : World) (h : inB a b d = v) :
    Calls Try.prog 38 #[.agg #[.int .i64 a, .int .i64 b], .int .i64 d] w fun e w' => e = .returned (.bool v) ∧ Kept w w' := by
  rw [← h]; exact contains_any a b d w
theorem sub_no {x y : Int} {b : Bool} (h : b = false) : Value.int .i64 (x - y) = .int .i64 (x - (y + if b = true then 1 else 0)) := by rw [h]; simp
theorem sub_yes {x y : Int} {b : Bool} (h : b = true) : Value.int .i64 (x - y - 1) = .int .i64 (x - (y + if b = true then 1 else 0)) := by rw [h]; congr 1; simp; omega
theorem hit_no {wk a b h : Int} (hr : rangeB a b = true) (hin : inB a b h = false) : hitB wk a b h = false := by
  unfold inB at hin; rw [hr] at hin; unfold hitB; simp only [Bool.true_and] at hin; rw [hin]; rfl
theorem hit_in {wk a b h : Int} (hr : rangeB a b = true) (hin : inB a b h = true) : hitB wk a b h = !dayOff wk h := by
  unfold inB at hin; rw [hr] at hin; unfold hitB; simp only [Bool.true_and] at hin; rw [hin]; rfl
theorem count_ret {wk a b : Int} {hs : List Int} {n : Nat} (hv : vcalB wk hs = true) (hr : rangeB a b = true) (hl : hs.length = n) :
    Ending.returned (.int .i64 (sumW wk a b 7 - subH wk a b hs n)) = .returned (.int .i64 (countS wk hs a b)) := by
  rw [← hl, countS_eq wk a b hs hv hr]
theorem wdb_bd (d k : Int) (h0 : 0 ≤ d) (h1 : d ≤ 109573) (h2 : 0 ≤ k) (h3 : k < 7) : 0 ≤ wdb d k ∧ wdb d k ≤ 20000 := by
  unfold wdb; omega

set_option maxHeartbeats 400000 in
theorem count_any (wk : Int) (A : Option Addr) (n c : Nat) (hs : List Int) (a b : Int) (w : World) (hr : Ints w A n hs) (hn : n ≤ 100) :
    Calls Try.prog 21 #[.agg #[.int .i64 wk, .slice A n c], .agg #[.int .i64 a, .int .i64 b]] w fun e w' => e = .returned (.int .i64 (countS wk hs a b)) ∧ Kept w w' := by
  cases hv : vcalB wk hs
  · go_enter Try.func21, Try.ntmps21
    go_wp2_with (go_at_call 15; refine (wvalid_any _ _ _ _ _ _ ((hr.alloc _).alloc _) hn).mono ?_; rintro e w' ⟨rfl, hk⟩)
    go_ret
    exact ⟨ret_int (by simp [countS, hv]), (((Kept.refl _).alloc _).alloc _).trans hk⟩
  · cases hrg : rangeB a b
    · go_enter Try.func21, Try.ntmps21
      go_wp2_with fail
      refine (wvalid_any _ _ _ _ _ _ ((hr.alloc _).alloc _) hn).mono ?_
      rintro e w1 ⟨rfl, hk⟩
      have hbox := hk.cells
      go_wp2_with fail
      refine (rvalid_any _ _ _).mono ?_
      rintro e w2 ⟨rfl, hk2⟩
      go_wp2_with fail
      go_ret
      exact ⟨ret_int (by simp [countS, hrg]), ((((Kept.refl _).alloc _).alloc _).trans hk).trans hk2⟩
    · have HV := Lib.hid hv
      have HRG := Lib.hid hrg
      have hvv := vcalB_iff.1 hv
      have g0 := hvv.1
      have g1 := hvv.2.1
      have HVV := Lib.hid hvv
      obtain ⟨r0, r1, r2⟩ := rangeB_iff.1 hrg
      clear hvv
      go_enter Try.func21, Try.ntmps21
      go_wp2_with fail
      refine (wvalid_any _ _ _ _ _ _ ((hr.alloc _).alloc _) hn).mono ?_
      rintro e w1 ⟨rfl, hk⟩
      have hbox := hk.cells
      go_wp2_with fail
      refine (rvalid_any _ _ _).mono ?_
      rintro e w2 ⟨rfl, hk2⟩
      go_wp2_with fail
      have hK : Kept ((w.alloc (.cells #[.int .i64 wk, .slice A n c] 24)).alloc (.cells #[.int .i64 a, .int .i64 b] 34)) w2 := hk.trans hk2
      clear hk hk2 hbox
      go_loopw [5, 6, 17] (fun x y z wr => ∃ j : Nat, j ≤ 7 ∧ z = .int .i64 j ∧ x = .int .i64 (sumW wk a b j) ∧ Kept ((w.alloc (.cells #[.int .i64 wk, .slice A n c] 24)).alloc (.cells #[.int .i64 a, .int .i64 b] 34)) wr)
        (fun _ _ z _ => 7 - (intOf z).toNat)
      case atStart => exact ⟨0, by omega, rfl, rfl, hK⟩
      case round =>
        obtain ⟨j, hj, rfl, rfl, hw⟩ := hrel
        have hbox := hw.cells
        have hbd := sumW_bd wk a b r0 r1 r2 j hj
        by_cases hlt : j < 7
        · have hbit := bit_eq wk j g0 g1
          cases ht : ((wk / 2 ^ j) % 2 == 0)
          · go_wp2_with fail
            go_roundw
            case rel => exact ⟨j + 1, by omega, by go_num, by rw [sumW, if_neg (by simpa using ht), Int.add_zero], hw⟩
            case measure => simp only [intOf]; omega
          · go_wp2_with fail
            have q1 := wdb_bd b j (by omega) (by omega) (by omega) (by omega)
            have q2 := wdb_bd a j (by omega) (by omega) (by omega) (by omega)
            have e1 : IntKind.i64.wrap (wdb b j - wdb a j) = wdb b j - wdb a j := IntWalk.i64_in _ (by omega)
            have e2 : IntKind.i64.wrap (sumW wk a b j + (wdb b j - wdb a j)) = sumW wk a b j + (wdb b j - wdb a j) := IntWalk.i64_in _ (by omega)
            go_quiet ((go_at_call 37; exact Calls.quiet_of_same (quiet_l (wdb_any _ _ _ (by omega) (by omega) (by omega) (by omega)))))
            clear e1 e2
            go_wp2_with fail
            go_roundw
            case rel => exact ⟨j + 1, by omega, by go_num, by rw [sumW, if_pos (by simpa using ht)], hw.drewN _⟩
            case measure => simp only [intOf]; omega
        · obtain rfl : j = 7 := by omega
          go_wp2_with fail
          have hsb := subH_bd wk a b hs
          go_loopw [5, 8, 41] (fun x y z wr => ∃ j : Nat, j ≤ n ∧ z = .int .i64 j ∧ x = .int .i64 (sumW wk a b 7 - subH wk a b hs j) ∧ Kept ((w.alloc (.cells #[.int .i64 wk, .slice A n c] 24)).alloc (.cells #[.int .i64 a, .int .i64 b] 34)) wr)
            (fun _ _ z _ => n - (intOf z).toNat)
          case atStart => exact ⟨0, by omega, rfl, by simp [subH], hw⟩
          case round =>
            clear hw
            obtain ⟨j, hj, rfl, rfl, hw⟩ := hrel
            have hbox := hw.cells
            have hsj := hsb j
            clear hsb
            by_cases hlt : j < n
            · obtain ⟨b', off, rfl, hb, hc⟩ := ((hr.alloc _).alloc _ |>.kept hw).at_ hlt
              have hcell := hc j hlt
              clear hc
              go_wp2_with fail
              have c0 : wr.cell? ⟨w.heap.size + 1, 0, none⟩ = some (.int .i64 a) := hw.boxes2.2.1 0
              have c1 : wr.cell? ⟨w.heap.size + 1, 1, none⟩ = some (.int .i64 b) := hw.boxes2.2.1 1
              have c2 : wr.cell? ⟨w.heap.size, 0, none⟩ = some (.int .i64 wk) := hw.boxes2.1 0
              have c3 : w.heap.size + 1 < wr.heap.size := hw.boxes2.2.2
              have k0 := KW.cell (by omega) c0
              have k1 := KW.cell (by omega) c1
              have k2 := KW.cell (by omega) c2
              cases hin : inB a b (hs[j]?.getD 0)
              · refine wp_region_kept (by kernel_rfl) (by kernel_rfl) ?_
                repeat (go_big_quiet_step ((go_at_call 38; exact KW.call (contains_is _ hin))))
                refine wpQuiet_nil ?_
                rintro _ ⟨⟨wx, hx⟩, rfl⟩
                go_wp2_with fail
                go_roundw
                case rel => exact ⟨j + 1, by omega, by go_num, by rw [subH, sub_no (hit_no HRG.out hin)], hw.trans hx⟩
                case measure => simp only [intOf]; omega
              · have hdd : 0 ≤ hs[j]?.getD 0 ∧ hs[j]?.getD 0 ≤ 109572 := inB_bd hin
                obtain ⟨d0, d1⟩ := hdd
                have hbit := bit_eqB wk (hs[j]?.getD 0) g0 g1
                have hhit := hit_in (wk := wk) HRG.out hin
                have HHIT := Lib.hid hhit
                clear hhit
                cases hoff : dayOff wk (hs[j]?.getD 0)
                all_goals
                  refine wp_region_kept (by kernel_rfl) (by kernel_rfl) ?_
                  repeat (go_big_quiet_step (first | (go_at_call 38; exact KW.call (contains_is _ hin)) | (go_at_call 39; exact KW.pure (weekday_any _ _ d0 d1))))
                  refine wpQuiet_nil ?_
                  rintro _ ⟨⟨wx, hx⟩, rfl⟩
                  go_wp2_with fail
                  go_roundw
                  case rel => exact ⟨j + 1, by omega, by go_num, by rw [subH, HHIT.out, hoff]; first | exact sub_no rfl | exact sub_yes rfl, hw.trans hx⟩
                  case measure => simp only [intOf]; omega
            · obtain rfl : j = n := by omega
              go_wp2_with fail
              go_ret
              exact ⟨count_ret HV.out HRG.out hr.1, (((Kept.refl _).alloc _).alloc _).trans hw⟩
end Go.Proofs.Ytpickiepkdkigaa
