/- What the reference's Next, Add and Count compute. -/
import Derived.Test.YtpickiepkdkigaaRefDay
namespace Go.Proofs.Ytpickiepkdkigaa
open Go.RowKit

theorem isWork_at {wk : Int} {hs : List Int} {d : Int} (hv : vcalB wk hs = true) (h0 : 0 ≤ d) (h1 : d ≤ 109572) : isWorkB wk hs d = workB wk hs d := by
  simp [isWorkB, hv, isDate_iff.2 ⟨h0, h1⟩]
theorem rwork_is {wk : Int} {A : Option Addr} {n c : Nat} {hs : List Int} {d : Int} {v : Bool} {w : World} (hr : Ints w A n hs) (hn : n ≤ 100) (hv : vcalB wk hs = true) (h0 : 0 ≤ d) (h1 : d ≤ 109572) (h : workB wk hs d = v) :
    Calls Try.prog 18 #[.agg #[.int .i64 wk, .slice A n c], .int .i64 d] w fun e w' => e = .returned (.bool v) ∧ Kept w w' := by
  rw [← h, ← isWork_at hv h0 h1]; exact rwork_any wk A n c hs d w hr hn

set_option maxHeartbeats 400000 in
theorem rnext_any (wk : Int) (A : Option Addr) (n c : Nat) (hs : List Int) (d : Int) (w : World) (hr : Ints w A n hs) (hn : n ≤ 100) :
    Calls Try.prog 14 #[.agg #[.int .i64 wk, .slice A n c], .int .i64 d] w fun e w' => e = .returned (.tuple #[.int .i64 (nextS wk hs d).1, .int .i64 (nextS wk hs d).2]) ∧ Kept w w' := by
  cases hv : vcalB wk hs
  · go_enter Try.func14, Try.ntmps14
    go_wp2_with (go_at_call 16; refine (rwvalid_any _ _ _ _ _ _ (hr.alloc _) hn).mono ?_; rintro e w' ⟨rfl, hk⟩)
    go_ret2
    exact ⟨nth_ret (by simp [nextS, hv]), ((Kept.refl _).alloc _).trans hk⟩
  · have HV := Lib.hid hv
    cases hd : isDate d
    · go_enter Try.func14, Try.ntmps14
      go_wp2_with fail
      refine (rwvalid_any _ _ _ _ _ _ (hr.alloc _) hn).mono ?_
      rintro e w1 ⟨rfl, hk⟩
      go_wp2_with fail
      refine (rday_any _ _).mono ?_
      rintro e w' ⟨rfl, rfl⟩
      go_wp2_with fail
      go_ret2
      exact ⟨nth_ret (by simp [nextS, hv, hd]), ((Kept.refl _).alloc _).trans hk⟩
    · have hdd := isDate_iff.1 hd
      have hd0 := hdd.1
      have hd1 := hdd.2
      have hfin : nextS wk hs d = nthS wk hs d 1 := by simp [nextS, hv, hd]
      have HF := Lib.hid hfin
      clear hdd hfin
      go_enter Try.func14, Try.ntmps14
      go_wp2_with fail
      refine (rwvalid_any _ _ _ _ _ _ (hr.alloc _) hn).mono ?_
      rintro e w1 ⟨rfl, hk⟩
      go_wp2_with fail
      refine (rday_any _ _).mono ?_
      rintro e w' ⟨rfl, rfl⟩
      go_wp2_with fail
      clear hd hv
      go_loopw [1] (fun x wr => ∃ d' : Int, x = .int .i64 d' ∧ 0 ≤ d' ∧ d' ≤ 109573 ∧ nthS wk hs d' 1 = nthS wk hs d 1 ∧ Kept (w.alloc (.cells #[.int .i64 wk, .slice A n c] 24)) wr) (fun x _ => (109573 - intOf x).toNat)
      case atStart => exact ⟨d, rfl, hd0, by omega, rfl, hk⟩
      case round =>
        obtain ⟨d', rfl, q0, q1, he, hw⟩ := hrel
        have HE := Lib.hid he
        have hbox := hw.cells
        clear he
        by_cases hlt : d' ≤ 109572
        · cases hwk : workB wk hs d'
          · go_wp2_with (go_at_call 18; refine (rwork_is ((hr.alloc _).kept hw) hn HV.out q0 hlt hwk).mono ?_; rintro e w2 ⟨rfl, hk2⟩)
            go_roundw
            case rel => exact ⟨d' + 1, rfl, by omega, by omega, by rw [← HE.out, nthS_no wk hs d' 1 hlt hwk], hw.trans hk2⟩
            case measure => simp only [intOf]; omega
          · go_wp2_with (go_at_call 18; refine (rwork_is ((hr.alloc _).kept hw) hn HV.out q0 hlt hwk).mono ?_; rintro e w2 ⟨rfl, hk2⟩)
            have h1 := HE.out
            rw [nthS_hit wk hs d' 1 hlt hwk rfl] at h1
            go_ret2
            exact ⟨nth_ret (HF.out.trans h1.symm), (((Kept.refl _).alloc _).trans hw).trans hk2⟩
        · go_wp2_with fail
          have h1 := HE.out
          rw [nthS_end wk hs d' 1 (by omega)] at h1
          go_ret2
          exact ⟨nth_ret (HF.out.trans h1.symm), ((Kept.refl _).alloc _).trans hw⟩

set_option maxHeartbeats 400000 in
theorem radd_any (wk : Int) (A : Option Addr) (n c : Nat) (hs : List Int) (d k : Int) (w : World) (hr : Ints w A n hs) (hn : n ≤ 100) :
    Calls Try.prog 20 #[.agg #[.int .i64 wk, .slice A n c], .int .i64 d, .int .i64 k] w fun e w' => e = .returned (.tuple #[.int .i64 (addS wk hs d k).1, .int .i64 (addS wk hs d k).2]) ∧ Kept w w' := by
  cases hv : vcalB wk hs
  · go_enter Try.func20, Try.ntmps20
    go_wp2_with (go_at_call 16; refine (rwvalid_any _ _ _ _ _ _ (hr.alloc _) hn).mono ?_; rintro e w' ⟨rfl, hk⟩)
    go_ret2
    exact ⟨nth_ret (by simp [addS, hv]), ((Kept.refl _).alloc _).trans hk⟩
  · have HV := Lib.hid hv
    by_cases hg : isDate d = true ∧ 0 ≤ k ∧ k ≤ 365
    · obtain ⟨hd, hk0, hk1⟩ := hg
      have hdd := isDate_iff.1 hd
      have hd0 := hdd.1
      have hd1 := hdd.2
      clear hdd
      cases hz : (k == 0)
      · have hne : k ≠ 0 := by simpa using hz
        have hfin : addS wk hs d k = nthS wk hs (d + 1) k := by simp [addS, hv, hd, hk0, hk1, hne]
        have HF := Lib.hid hfin
        clear hfin hv
        go_enter Try.func20, Try.ntmps20
        go_wp2_with fail
        refine (rwvalid_any _ _ _ _ _ _ (hr.alloc _) hn).mono ?_
        rintro e w1 ⟨he, hk⟩
        rw [HV.out] at he
        subst he
        go_wp2_with fail
        refine (rday_any _ _).mono ?_
        rintro e w' ⟨rfl, rfl⟩
        go_wp2_with fail
        have hk2 : 1 ≤ k := by omega
        clear hz hne hd
        go_loopw [1, 2] (fun x y wr => ∃ d' k' : Int, x = .int .i64 d' ∧ y = .int .i64 k' ∧ 0 ≤ d' ∧ d' ≤ 109572 ∧ 1 ≤ k' ∧ k' ≤ 365 ∧ nthS wk hs (d' + 1) k' = nthS wk hs (d + 1) k ∧ Kept (w.alloc (.cells #[.int .i64 wk, .slice A n c] 24)) wr)
          (fun x _ _ => (109573 - intOf x).toNat)
        case atStart => exact ⟨d, k, rfl, rfl, hd0, by omega, hk2, hk1, rfl, hk⟩
        case round =>
          obtain ⟨d', k', rfl, rfl, q0, q1, q2, q3, he, hw⟩ := hrel
          have HE := Lib.hid he
          have hbox := hw.cells
          clear he
          by_cases hlt : d' < 109572
          · cases hwk : workB wk hs (d' + 1)
            · go_wp2_with (go_at_call 18; refine (rwork_is ((hr.alloc _).kept hw) hn HV.out (by omega) (by omega) hwk).mono ?_; rintro e w2 ⟨rfl, hk2⟩)
              go_roundw
              case rel => exact ⟨d' + 1, k', rfl, rfl, by omega, by omega, q2, q3, by rw [← HE.out, nthS_no wk hs (d' + 1) k' (by omega) hwk], hw.trans hk2⟩
              case measure => simp only [intOf]; omega
            · cases hk1' : (k' - 1 == 0)
              · go_wp2_with (go_at_call 18; refine (rwork_is ((hr.alloc _).kept hw) hn HV.out (by omega) (by omega) hwk).mono ?_; rintro e w2 ⟨rfl, hk2⟩)
                have hne : k' ≠ 1 := by simp at hk1'; omega
                go_roundw
                case rel => exact ⟨d' + 1, k' - 1, rfl, rfl, by omega, by omega, by omega, by omega, by rw [← HE.out, nthS_on wk hs (d' + 1) k' (by omega) hwk hne], hw.trans hk2⟩
                case measure => simp only [intOf]; omega
              · go_wp2_with (go_at_call 18; refine (rwork_is ((hr.alloc _).kept hw) hn HV.out (by omega) (by omega) hwk).mono ?_; rintro e w2 ⟨rfl, hk2⟩)
                have hne : k' = 1 := by simp at hk1'; omega
                have h1 := HE.out
                rw [nthS_hit wk hs (d' + 1) k' (by omega) hwk hne] at h1
                go_ret2
                exact ⟨nth_ret (HF.out.trans h1.symm), (((Kept.refl _).alloc _).trans hw).trans hk2⟩
          · go_wp2_with fail
            have h1 := HE.out
            rw [nthS_end wk hs (d' + 1) k' (by omega)] at h1
            go_ret2
            exact ⟨nth_ret (HF.out.trans h1.symm), ((Kept.refl _).alloc _).trans hw⟩
      · have hne : k = 0 := by simpa using hz
        subst hne
        go_enter Try.func20, Try.ntmps20
        go_wp2_with fail
        refine (rwvalid_any _ _ _ _ _ _ (hr.alloc _) hn).mono ?_
        rintro e w1 ⟨rfl, hk⟩
        go_wp2_with fail
        refine (rday_any _ _).mono ?_
        rintro e w' ⟨rfl, rfl⟩
        have hbox := hk.cells
        go_wp2_with fail
        refine (rnext_any _ _ _ _ _ _ _ ((hr.alloc _).kept hk) hn).mono ?_
        rintro e w2 ⟨rfl, hk2⟩
        go_wp2_with fail
        go_ret2
        exact ⟨nth_ret (by simp [addS, hv, hd]), (((Kept.refl _).alloc _).trans hk).trans hk2⟩
    · have hres : addS wk hs d k = (0, 3) := by
        unfold addS
        rw [if_pos hv, if_neg (by simpa [and_assoc] using hg)]
      cases hd : isDate d
      · go_enter Try.func20, Try.ntmps20
        go_wp2_with fail
        refine (rwvalid_any _ _ _ _ _ _ (hr.alloc _) hn).mono ?_
        rintro e w1 ⟨rfl, hk⟩
        go_wp2_with fail
        refine (rday_any _ _).mono ?_
        rintro e w' ⟨rfl, rfl⟩
        go_wp2_with fail
        go_ret2
        exact ⟨nth_ret hres, ((Kept.refl _).alloc _).trans hk⟩
      · have hg' : k < 0 ∨ 365 < k := by
          rcases Int.lt_or_le k 0 with h | h
          · exact .inl h
          · exact .inr (by rcases Int.lt_or_le 365 k with h' | h'; exact h'; exact absurd ⟨hd, h, h'⟩ hg)
        have HR := Lib.hid hres
        clear hres hg
        rcases hg' with hg' | hg'
        all_goals
          go_enter Try.func20, Try.ntmps20
          go_wp2_with fail
          refine (rwvalid_any _ _ _ _ _ _ (hr.alloc _) hn).mono ?_
          rintro e w1 ⟨rfl, hk⟩
          go_wp2_with fail
          refine (rday_any _ _).mono ?_
          rintro e w' ⟨rfl, rfl⟩
          go_wp2_with fail
          go_ret2
          exact ⟨nth_ret HR.out, ((Kept.refl _).alloc _).trans hk⟩

set_option maxHeartbeats 400000 in
theorem rrvalid_any (a b : Int) (w : World) :
    Calls Try.prog 40 #[.agg #[.int .i64 a, .int .i64 b]] w fun e w' => e = .returned (.bool (rangeB a b)) ∧ Kept w w' := by
  go_enter Try.func40, Try.ntmps40
  go_wp2
  all_goals (go_ret; exact ⟨ret_bool (by simp [rangeB]; try omega), (Kept.refl _).alloc _⟩)

theorem rcount_done {wk a b : Int} {hs : List Int} (hv : vcalB wk hs = true) (hr : rangeB a b = true) {j : Nat} (hj : a + j = b) : ((cnt (workB wk hs) a j : Nat) : Int) = countS wk hs a b := by
  unfold countS
  rw [hv, hr, show (b - a).toNat = j from by omega]
  rfl
theorem cnt_yes {p : Int → Bool} {a : Int} {j : Nat} (h : p (a + j) = true) : (cnt p a j : Int) + 1 = (cnt p a (j + 1) : Nat) := by
  rw [cnt, h]; simp
theorem cnt_no {p : Int → Bool} {a : Int} {j : Nat} (h : p (a + j) = false) : cnt p a j = cnt p a (j + 1) := by
  rw [cnt, h]; simp
set_option maxHeartbeats 400000 in
theorem rcount_any (wk : Int) (A : Option Addr) (n c : Nat) (hs : List Int) (a b : Int) (w : World) (hr : Ints w A n hs) (hn : n ≤ 100) :
    Calls Try.prog 22 #[.agg #[.int .i64 wk, .slice A n c], .agg #[.int .i64 a, .int .i64 b]] w fun e w' => e = .returned (.int .i64 (countS wk hs a b)) ∧ Kept w w' := by
  cases hv : vcalB wk hs
  · go_enter Try.func22, Try.ntmps22
    go_wp2_with (go_at_call 16; refine (rwvalid_any _ _ _ _ _ _ ((hr.alloc _).alloc _) hn).mono ?_; rintro e w' ⟨rfl, hk⟩)
    go_ret
    exact ⟨ret_int (by simp [countS, hv]), (((Kept.refl _).alloc _).alloc _).trans hk⟩
  · cases hrg : rangeB a b
    · go_enter Try.func22, Try.ntmps22
      go_wp2_with fail
      refine (rwvalid_any _ _ _ _ _ _ ((hr.alloc _).alloc _) hn).mono ?_
      rintro e w1 ⟨rfl, hk⟩
      have hbox := hk.cells
      go_wp2_with fail
      refine (rrvalid_any _ _ _).mono ?_
      rintro e w2 ⟨rfl, hk2⟩
      go_wp2_with fail
      go_ret
      exact ⟨ret_int (by simp [countS, hrg]), ((((Kept.refl _).alloc _).alloc _).trans hk).trans hk2⟩
    · have HV := Lib.hid hv
      have HRG := Lib.hid hrg
      obtain ⟨r0, r1, r2⟩ := rangeB_iff.1 hrg
      go_enter Try.func22, Try.ntmps22
      go_wp2_with fail
      refine (rwvalid_any _ _ _ _ _ _ ((hr.alloc _).alloc _) hn).mono ?_
      rintro e w1 ⟨rfl, hk⟩
      have hbox := hk.cells
      go_wp2_with fail
      refine (rrvalid_any _ _ _).mono ?_
      rintro e w2 ⟨rfl, hk2⟩
      clear hbox
      have hbox2 := (hk.trans hk2).cells
      go_wp2_with fail
      have hK : Kept ((w.alloc (.cells #[.int .i64 wk, .slice A n c] 24)).alloc (.cells #[.int .i64 a, .int .i64 b] 34)) w2 := hk.trans hk2
      clear hk hk2 hbox2 hv hrg
      go_loopw [5, 6] (fun x y wr => ∃ j : Nat, a + j ≤ b ∧ y = .int .i64 (a + j) ∧ x = .int .i64 (cnt (workB wk hs) a j : Nat) ∧ Kept ((w.alloc (.cells #[.int .i64 wk, .slice A n c] 24)).alloc (.cells #[.int .i64 a, .int .i64 b] 34)) wr)
        (fun _ y _ => (b - intOf y).toNat)
      case atStart => exact ⟨0, by omega, by simp, rfl, hK⟩
      case round =>
        obtain ⟨j, hj, rfl, rfl, hw⟩ := hrel
        have c0 : wr.cell? ⟨w.heap.size + 1, 1, none⟩ = some (.int .i64 b) := hw.boxes2.2.1 1
        have hbox := hw.cells
        have hcl := cnt_le (workB wk hs) a j
        have hjb : j ≤ 109573 := by omega
        by_cases hlt : a + j < b
        · cases hwk : workB wk hs (a + j)
          · go_wp2_with (go_at_call 18; refine (rwork_is (((hr.alloc _).alloc _).kept hw) hn HV.out (by omega) (by omega) hwk).mono ?_; rintro e w2 ⟨rfl, hk2⟩)
            go_roundw
            case rel => exact ⟨j + 1, by omega, by go_num, by rw [cnt_no hwk], hw.trans hk2⟩
            case measure => simp only [intOf]; omega
          · go_wp2_with (go_at_call 18; refine (rwork_is (((hr.alloc _).alloc _).kept hw) hn HV.out (by omega) (by omega) hwk).mono ?_; rintro e w2 ⟨rfl, hk2⟩)
            go_roundw
            case rel => exact ⟨j + 1, by omega, by go_num, by rw [cnt_yes hwk], hw.trans hk2⟩
            case measure => simp only [intOf]; omega
        · go_wp2_with fail
          go_ret
          exact ⟨ret_int (rcount_done HV.out HRG.out (by omega)), (((Kept.refl _).alloc _).alloc _).trans hw⟩
end Go.Proofs.Ytpickiepkdkigaa
