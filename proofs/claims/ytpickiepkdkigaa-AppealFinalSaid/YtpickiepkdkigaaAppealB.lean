/- What appeal.Valid, IsFinal, lastDay and File compute, and the reference's. -/
import Derived.Test.YtpickiepkdkigaaAppeal
namespace Go.Proofs.Ytpickiepkdkigaa
open Go.RowKit

set_option maxHeartbeats 2000000 in
theorem validA_any (i f t fi de st ce : Int) (w : World) :
    Calls Try.prog 28 #[.agg #[.int .i64 i, .int .i64 f, .int .i64 t, .int .i64 fi, .int .i64 de, .int .i64 st, .int .i64 ce]] w fun e w' => e = .returned (.bool (validA ⟨i, f, t, fi, de, st, ce⟩)) ∧ Kept w w' := by
  cases hm : monthsB f t
  all_goals
    go_enter Try.func28, Try.ntmps28
    go_wp2_with (go_at_call 42; refine (months_any _ _ _).mono ?_; rintro e w' ⟨rfl, rfl⟩)
    all_goals
      go_ret
      refine ⟨ret_bool ?_, (Kept.refl _).alloc _⟩
      rw [Bool.eq_iff_iff]
      simp only [validA, hm]
      simp
      try omega
set_option maxHeartbeats 2000000 in
theorem rvalidA_any (i f t fi de st ce : Int) (w : World) :
    Calls Try.prog 29 #[.agg #[.int .i64 i, .int .i64 f, .int .i64 t, .int .i64 fi, .int .i64 de, .int .i64 st, .int .i64 ce]] w fun e w' => e = .returned (.bool (validA ⟨i, f, t, fi, de, st, ce⟩)) ∧ Kept w w' := by
  cases hm : monthsB f t
  all_goals
    go_enter Try.func29, Try.ntmps29
    go_wp2_with (go_at_call 45; refine (rmonths_any _ _ _).mono ?_; rintro e w' ⟨rfl, rfl⟩)
    all_goals
      go_ret
      refine ⟨ret_bool ?_, (Kept.refl _).alloc _⟩
      rw [Bool.eq_iff_iff]
      simp only [validA, hm]
      simp
      try omega
set_option maxHeartbeats 1000000 in
theorem finalA_any (i f t fi de st ce : Int) (w : World) :
    Calls Try.prog 30 #[.agg #[.int .i64 i, .int .i64 f, .int .i64 t, .int .i64 fi, .int .i64 de, .int .i64 st, .int .i64 ce]] w fun e w' => e = .returned (.bool (finalA st)) ∧ Kept w w' := by
  go_enter Try.func30, Try.ntmps30
  go_wp2
  all_goals
    go_ret
    refine ⟨ret_bool ?_, (Kept.refl _).alloc _⟩
    simp_all [finalA]
set_option maxHeartbeats 1000000 in
theorem rfinalA_any (i f t fi de st ce : Int) (w : World) :
    Calls Try.prog 31 #[.agg #[.int .i64 i, .int .i64 f, .int .i64 t, .int .i64 fi, .int .i64 de, .int .i64 st, .int .i64 ce]] w fun e w' => e = .returned (.bool (finalA st)) ∧ Kept w w' := by
  go_enter Try.func31, Try.ntmps31
  go_wp2
  all_goals
    go_ret
    refine ⟨ret_bool ?_, (Kept.refl _).alloc _⟩
    rw [Bool.eq_iff_iff]
    simp [finalA]
    try omega

theorem head_no {id fr til d no : Int} (h : headB id fr til d no = false) : id < 0 ∨ (0 ≤ id ∧ isDate d = false) ∨ (0 ≤ id ∧ isDate d = true ∧ isDate no = false) ∨ (0 ≤ id ∧ isDate d = true ∧ isDate no = true ∧ monthsB fr til = false) := by
  unfold headB at h
  by_cases h1 : id < 0
  · exact .inl h1
  · have h1' : 0 ≤ id := by omega
    cases h2 : isDate d
    · exact .inr (.inl ⟨h1', rfl⟩)
    · cases h3 : isDate no
      · exact .inr (.inr (.inl ⟨h1', rfl, rfl⟩))
      · rw [h2, h3] at h
        exact .inr (.inr (.inr ⟨h1', rfl, rfl, by simpa [h1'] using h⟩))
theorem head_yes {id fr til d no : Int} (h : headB id fr til d no = true) : 0 ≤ id ∧ isDate d = true ∧ isDate no = true ∧ monthsB fr til = true := by
  simpa [headB] using h
theorem conf_no {wk : Int} {hs : List Int} {days : Int} (h : confB wk hs days = false) : vcalB wk hs = false ∨ (vcalB wk hs = true ∧ days < 0) ∨ (vcalB wk hs = true ∧ 0 ≤ days ∧ 365 < days) := by
  cases h1 : vcalB wk hs
  · exact .inl rfl
  · unfold confB at h
    rw [h1] at h
    simp only [Bool.true_and, Bool.and_eq_false_iff, decide_eq_false_iff_not] at h
    rcases Int.lt_or_le days 0 with h2 | h2
    · exact .inr (.inl ⟨rfl, h2⟩)
    · exact .inr (.inr ⟨rfl, h2, by omega⟩)
theorem conf_yes {wk : Int} {hs : List Int} {days : Int} (h : confB wk hs days = true) : vcalB wk hs = true ∧ 0 ≤ days ∧ days ≤ 365 := by
  simpa [confB] using h
section
variable (wk : Int) (A : Option Addr) (n c : Nat) (hs : List Int) (w : World) (hr : Ints w A n hs) (hn : n ≤ 100)
include hr hn
set_option maxHeartbeats 400000 in
theorem last_any (d k : Int) :
    Calls Try.prog 43 #[.agg #[.int .i64 wk, .slice A n c], .int .i64 d, .int .i64 k] w fun e w' => e = .returned (.int .i64 (lastDayS wk hs d k)) ∧ Kept w w' := by
  obtain ⟨⟨a, b⟩, hp⟩ : ∃ p, addS wk hs d k = p := ⟨_, rfl⟩
  have HP := Lib.hid hp
  clear hp
  cases hb : (b == 0)
  · have hb' : (b != 0) = true := by simpa using hb
    go_enter Try.func43, Try.ntmps43
    go_wp2_with (go_at_call 19; refine (add_is (hr.alloc _) hn HP.out).mono ?_; rintro e w' ⟨rfl, hk⟩)
    go_ret
    exact ⟨ret_int (by simp [lastDayS, HP.out, (by simpa using hb : b ≠ 0)]), ((Kept.refl _).alloc _).trans hk⟩
  · have hb' : (b != 0) = false := by simpa using hb
    go_enter Try.func43, Try.ntmps43
    go_wp2_with (go_at_call 19; refine (add_is (hr.alloc _) hn HP.out).mono ?_; rintro e w' ⟨rfl, hk⟩)
    go_ret
    exact ⟨ret_int (by simp [lastDayS, HP.out, (by simpa using hb : b = 0)]), ((Kept.refl _).alloc _).trans hk⟩
set_option maxHeartbeats 400000 in
theorem rlast_any (d k : Int) :
    Calls Try.prog 46 #[.agg #[.int .i64 wk, .slice A n c], .int .i64 d, .int .i64 k] w fun e w' => e = .returned (.int .i64 (lastDayS wk hs d k)) ∧ Kept w w' := by
  obtain ⟨⟨a, b⟩, hp⟩ : ∃ p, addS wk hs d k = p := ⟨_, rfl⟩
  have HP := Lib.hid hp
  clear hp
  cases hb : (b == 0)
  · have hb' : (b != 0) = true := by simpa using hb
    go_enter Try.func46, Try.ntmps46
    go_wp2_with (go_at_call 20; refine (radd_is (hr.alloc _) hn HP.out).mono ?_; rintro e w' ⟨rfl, hk⟩)
    go_ret
    exact ⟨ret_int (by simp [lastDayS, HP.out, (by simpa using hb : b ≠ 0)]), ((Kept.refl _).alloc _).trans hk⟩
  · have hb' : (b != 0) = false := by simpa using hb
    go_enter Try.func46, Try.ntmps46
    go_wp2_with (go_at_call 20; refine (radd_is (hr.alloc _) hn HP.out).mono ?_; rintro e w' ⟨rfl, hk⟩)
    go_ret
    exact ⟨ret_int (by simp [lastDayS, HP.out, (by simpa using hb : b = 0)]), ((Kept.refl _).alloc _).trans hk⟩

set_option maxHeartbeats 1000000 in
theorem file_any (c0 c1 c2 c3 c4 c5 days id fr til d no : Int) :
    Calls Try.prog 24 #[.int .i64 id, .int .i64 fr, .int .i64 til, .int .i64 d, .int .i64 no, .agg #[.int .i64 c0, .int .i64 c1, .int .i64 c2, .int .i64 c3, .int .i64 c4, .int .i64 c5, .int .i64 days, .int .i64 wk, .slice A n c]] w (ApPost (fileS wk hs days id fr til d no) w) := by
  cases hh : headB id fr til d no
  · have HR := Lib.hid (show fileS wk hs days id fr til d no = (⟨0, 0, 0, 0, 0, 0, 0⟩, 3) by simp [fileS, hh])
    have h' := head_no hh
    clear hh
    rcases h' with h1 | ⟨h1, h2⟩ | ⟨h1, h2, h3⟩ | ⟨h1, h2, h3, h4⟩
    all_goals
      go_enter Try.func24, Try.ntmps24
      go_wp2_with (first | (go_at_call 41; refine (apdate_any _ _).mono ?_; rintro e w' ⟨rfl, rfl⟩) | (go_at_call 42; refine (months_any _ _ _).mono ?_; rintro e w' ⟨rfl, rfl⟩))
      refine bodyPost_ret (v := .tuple #[.agg #[.int .i64 0, .int .i64 0, .int .i64 0, .int .i64 0, .int .i64 0, .int .i64 0, .int .i64 0], .int .i64 3]) (by simp [results, Try.results24, go_sem]) rfl ⟨ap_ret HR.out, ?_⟩
      exact ((Kept.refl _).alloc _).alloc _
  · have h' := head_yes hh
    obtain ⟨h1, h2, h3, h4⟩ := h'
    by_cases hl : d < no
    · have HR := Lib.hid (show fileS wk hs days id fr til d no = (⟨0, 0, 0, 0, 0, 0, 0⟩, 14) by simp [fileS, hh, hl])
      clear hh
      go_enter Try.func24, Try.ntmps24
      go_wp2_with (first | (go_at_call 41; refine (apdate_any _ _).mono ?_; rintro e w' ⟨rfl, rfl⟩) | (go_at_call 42; refine (months_any _ _ _).mono ?_; rintro e w' ⟨rfl, rfl⟩))
      refine bodyPost_ret (v := .tuple #[.agg #[.int .i64 0, .int .i64 0, .int .i64 0, .int .i64 0, .int .i64 0, .int .i64 0, .int .i64 0], .int .i64 14]) (by simp [results, Try.results24, go_sem]) rfl ⟨ap_ret HR.out, ?_⟩
      exact ((Kept.refl _).alloc _).alloc _
    · have hl' : no ≤ d := by omega
      cases hc : confB wk hs days
      · have HR := Lib.hid (show fileS wk hs days id fr til d no = (⟨0, 0, 0, 0, 0, 0, 0⟩, 1) by simp [fileS, hh, hl, hc])
        have h5 := conf_no hc
        clear hh hc hl
        rcases h5 with h5 | ⟨h5, h6⟩ | ⟨h5, h6, h7⟩
        all_goals
          go_enter Try.func24, Try.ntmps24
          go_wp2_with (first | (go_at_call 41; refine (apdate_any _ _).mono ?_; rintro e w' ⟨rfl, rfl⟩) | (go_at_call 42; refine (months_any _ _ _).mono ?_; rintro e w' ⟨rfl, rfl⟩))
          refine (wvalid_is ((hr.alloc _).alloc _) hn h5).mono ?_
          rintro e w1 ⟨rfl, k1⟩
          have hbox := k1.cells
          go_wp2_with fail
          refine bodyPost_ret (v := .tuple #[.agg #[.int .i64 0, .int .i64 0, .int .i64 0, .int .i64 0, .int .i64 0, .int .i64 0, .int .i64 0], .int .i64 1]) (by simp [results, Try.results24, go_sem, hbox]) rfl ⟨ap_ret HR.out, ?_⟩
          repeat refine Kept.setCell ?_ (by simp) _
          exact (((Kept.refl _).alloc _).alloc _).trans k1
      · have h5 := conf_yes hc
        obtain ⟨h5, h6, h7⟩ := h5
        cases ht : lateB wk hs days d no
        · have HR := Lib.hid (show fileS wk hs days id fr til d no = (⟨id, fr, til, d, lastDayS wk hs d 60, 1, 0⟩, 0) by simp [fileS, hh, hl, hc, ht])
          have ht' : d ≤ lastDayS wk hs no days := by simpa [lateB] using ht
          clear hh hc hl ht
          go_enter Try.func24, Try.ntmps24
          go_wp2_with (first | (go_at_call 41; refine (apdate_any _ _).mono ?_; rintro e w' ⟨rfl, rfl⟩) | (go_at_call 42; refine (months_any _ _ _).mono ?_; rintro e w' ⟨rfl, rfl⟩))
          refine (wvalid_is ((hr.alloc _).alloc _) hn h5).mono ?_
          rintro e w1 ⟨rfl, k1⟩
          have B1 := (Blk.new w 41 #[.int .i64 c0, .int .i64 c1, .int .i64 c2, .int .i64 c3, .int .i64 c4, .int .i64 c5, .int .i64 days, .int .i64 wk, .slice A n c]).alloc (.cells #[.int .i64 0, .int .i64 0, .int .i64 0, .int .i64 0, .int .i64 0, .int .i64 0, .int .i64 0] 43) |>.kept k1
          have B2 : Blk w1 (w.heap.size + 1) 43 #[.int .i64 0, .int .i64 0, .int .i64 0, .int .i64 0, .int .i64 0, .int .i64 0, .int .i64 0] := by
            have h := (Blk.new (w.alloc (.cells #[.int .i64 c0, .int .i64 c1, .int .i64 c2, .int .i64 c3, .int .i64 c4, .int .i64 c5, .int .i64 days, .int .i64 wk, .slice A n c] 41)) 43 #[.int .i64 0, .int .i64 0, .int .i64 0, .int .i64 0, .int .i64 0, .int .i64 0, .int .i64 0]).kept k1
            rwa [World.size_alloc] at h
          have b1 := B1.cell
          have l1 := B1.lt
          have l2 := B2.lt
          go_wp2_with fail
          refine (last_any _ _ _ _ _ _ ((((hr.alloc _).alloc _).kept k1).alloc _) hn _ _).mono ?_
          rintro e w2 ⟨rfl, k2⟩
          have kk2 : Kept w w2 := ((((((Kept.refl _).alloc _).alloc _).trans k1).alloc _).trans k2)
          have C1 := (B1.alloc (.cells #[.int .i64 id, .int .i64 fr, .int .i64 til, .int .i64 d, .int .i64 0, .int .i64 0, .int .i64 0] 43)).kept k2
          have C2 := (B2.alloc (.cells #[.int .i64 id, .int .i64 fr, .int .i64 til, .int .i64 d, .int .i64 0, .int .i64 0, .int .i64 0] 43)).kept k2
          have C3 := (Blk.new w1 43 #[.int .i64 id, .int .i64 fr, .int .i64 til, .int .i64 d, .int .i64 0, .int .i64 0, .int .i64 0]).kept k2
          have n1 : w.heap.size ≠ w1.heap.size := by omega
          have n2 : w.heap.size + 1 ≠ w1.heap.size := by omega
          have n3 := n2.symm
          have m1 := C1.cell
          have m3 := C3.cell
          have g3 := C3.frozen
          have p3 := C3.lt
          clear b1
          go_wp2_with fail
          have hri : Ints (w2.setCell ⟨w1.heap.size, 5, none⟩ (.int .i64 1)) A n hs := hr.kept (kk2.setCell (by simp; omega) _)
          refine (last_any _ _ _ _ _ _ hri hn _ _).mono ?_
          rintro e w3 ⟨rfl, k3⟩
          have D2 := (C2.far (p := ⟨w1.heap.size, 5, none⟩) n2 (.int .i64 1)).kept k3
          have D3 := (C3.set_ 5 (.int .i64 1)).kept k3
          have kk3 : Kept w w3 := (kk2.setCell (p := ⟨w1.heap.size, 5, none⟩) (by simp; omega) _).trans k3
          clear m1 m3 g3 p3
          have m2 := D2.cell
          have g2 := D2.frozen
          have p2 := D2.lt
          have m3 := D3.cell
          have g3 := D3.frozen
          have p3 := D3.lt
          go_wp2_with fail
          refine bodyPost_ret (v := .tuple #[.agg #[.int .i64 id, .int .i64 fr, .int .i64 til, .int .i64 d, .int .i64 (lastDayS wk hs d 60), .int .i64 1, .int .i64 0], .int .i64 0]) (by simp [results, Try.results24, go_sem, m2]) rfl ⟨ap_ret HR.out, ?_⟩
          repeat refine Kept.setCell ?_ (by simp; try omega) _
          exact kk3
        · have HR := Lib.hid (show fileS wk hs days id fr til d no = (⟨id, fr, til, d, d, 6, 0⟩, 0) by simp [fileS, hh, hl, hc, ht])
          have ht' : lastDayS wk hs no days < d := by simpa [lateB] using ht
          clear hh hc hl ht
          go_enter Try.func24, Try.ntmps24
          go_wp2_with (first | (go_at_call 41; refine (apdate_any _ _).mono ?_; rintro e w' ⟨rfl, rfl⟩) | (go_at_call 42; refine (months_any _ _ _).mono ?_; rintro e w' ⟨rfl, rfl⟩))
          refine (wvalid_is ((hr.alloc _).alloc _) hn h5).mono ?_
          rintro e w1 ⟨rfl, k1⟩
          have B1 := (Blk.new w 41 #[.int .i64 c0, .int .i64 c1, .int .i64 c2, .int .i64 c3, .int .i64 c4, .int .i64 c5, .int .i64 days, .int .i64 wk, .slice A n c]).alloc (.cells #[.int .i64 0, .int .i64 0, .int .i64 0, .int .i64 0, .int .i64 0, .int .i64 0, .int .i64 0] 43) |>.kept k1
          have B2 : Blk w1 (w.heap.size + 1) 43 #[.int .i64 0, .int .i64 0, .int .i64 0, .int .i64 0, .int .i64 0, .int .i64 0, .int .i64 0] := by
            have h := (Blk.new (w.alloc (.cells #[.int .i64 c0, .int .i64 c1, .int .i64 c2, .int .i64 c3, .int .i64 c4, .int .i64 c5, .int .i64 days, .int .i64 wk, .slice A n c] 41)) 43 #[.int .i64 0, .int .i64 0, .int .i64 0, .int .i64 0, .int .i64 0, .int .i64 0, .int .i64 0]).kept k1
            rwa [World.size_alloc] at h
          have b1 := B1.cell
          have l1 := B1.lt
          have l2 := B2.lt
          go_wp2_with fail
          refine (last_any _ _ _ _ _ _ ((((hr.alloc _).alloc _).kept k1).alloc _) hn _ _).mono ?_
          rintro e w2 ⟨rfl, k2⟩
          have kk2 : Kept w w2 := ((((((Kept.refl _).alloc _).alloc _).trans k1).alloc _).trans k2)
          have C1 := (B1.alloc (.cells #[.int .i64 id, .int .i64 fr, .int .i64 til, .int .i64 d, .int .i64 0, .int .i64 0, .int .i64 0] 43)).kept k2
          have C2 := (B2.alloc (.cells #[.int .i64 id, .int .i64 fr, .int .i64 til, .int .i64 d, .int .i64 0, .int .i64 0, .int .i64 0] 43)).kept k2
          have C3 := (Blk.new w1 43 #[.int .i64 id, .int .i64 fr, .int .i64 til, .int .i64 d, .int .i64 0, .int .i64 0, .int .i64 0]).kept k2
          have n1 : w.heap.size ≠ w1.heap.size := by omega
          have n2 : w.heap.size + 1 ≠ w1.heap.size := by omega
          have n3 := n2.symm
          have m1 := C1.cell
          have m3 := C3.cell
          have g3 := C3.frozen
          have p3 := C3.lt
          have m2 := C2.cell
          have g2 := C2.frozen
          have p2 := C2.lt
          clear b1
          go_wp2_with fail
          refine bodyPost_ret (v := .tuple #[.agg #[.int .i64 id, .int .i64 fr, .int .i64 til, .int .i64 d, .int .i64 d, .int .i64 6, .int .i64 0], .int .i64 0]) (by simp [results, Try.results24, go_sem, m2]) rfl ⟨ap_ret HR.out, ?_⟩
          repeat refine Kept.setCell ?_ (by simp; try omega) _
          exact kk2
end
end Go.Proofs.Ytpickiepkdkigaa
