/- What the reference's File computes. -/
import Derived.Test.YtpickiepkdkigaaAppealB
namespace Go.Proofs.Ytpickiepkdkigaa
open Go.RowKit
section
variable (wk : Int) (A : Option Addr) (n c : Nat) (hs : List Int) (w : World) (hr : Ints w A n hs) (hn : n ≤ 100)
include hr hn
set_option maxHeartbeats 1000000 in
theorem rfile_any (c0 c1 c2 c3 c4 c5 days id fr til d no : Int) :
    Calls Try.prog 25 #[.int .i64 id, .int .i64 fr, .int .i64 til, .int .i64 d, .int .i64 no, .agg #[.int .i64 c0, .int .i64 c1, .int .i64 c2, .int .i64 c3, .int .i64 c4, .int .i64 c5, .int .i64 days, .int .i64 wk, .slice A n c]] w (ApPost (fileS wk hs days id fr til d no) w) := by
  cases hh : headB id fr til d no
  · have HR := Lib.hid (show fileS wk hs days id fr til d no = (⟨0, 0, 0, 0, 0, 0, 0⟩, 3) by simp [fileS, hh])
    have h' := head_no hh
    clear hh
    rcases h' with h1 | ⟨h1, h2⟩ | ⟨h1, h2, h3⟩ | ⟨h1, h2, h3, h4⟩
    all_goals
      go_enter Try.func25, Try.ntmps25
      go_wp2_with (first | (go_at_call 44; refine (rapdate_any _ _).mono ?_; rintro e w' ⟨rfl, rfl⟩) | (go_at_call 45; refine (rmonths_any _ _ _).mono ?_; rintro e w' ⟨rfl, rfl⟩))
      refine bodyPost_ret (v := .tuple #[.agg #[.int .i64 0, .int .i64 0, .int .i64 0, .int .i64 0, .int .i64 0, .int .i64 0, .int .i64 0], .int .i64 3]) (by simp [results, Try.results25, go_sem]) rfl ⟨ap_ret HR.out, ?_⟩
      exact ((Kept.refl _).alloc _).alloc _
  · have h' := head_yes hh
    obtain ⟨h1, h2, h3, h4⟩ := h'
    by_cases hl : d < no
    · have HR := Lib.hid (show fileS wk hs days id fr til d no = (⟨0, 0, 0, 0, 0, 0, 0⟩, 14) by simp [fileS, hh, hl])
      clear hh
      go_enter Try.func25, Try.ntmps25
      go_wp2_with (first | (go_at_call 44; refine (rapdate_any _ _).mono ?_; rintro e w' ⟨rfl, rfl⟩) | (go_at_call 45; refine (rmonths_any _ _ _).mono ?_; rintro e w' ⟨rfl, rfl⟩))
      refine bodyPost_ret (v := .tuple #[.agg #[.int .i64 0, .int .i64 0, .int .i64 0, .int .i64 0, .int .i64 0, .int .i64 0, .int .i64 0], .int .i64 14]) (by simp [results, Try.results25, go_sem]) rfl ⟨ap_ret HR.out, ?_⟩
      exact ((Kept.refl _).alloc _).alloc _
    · have hl' : no ≤ d := by omega
      cases hc : confB wk hs days
      · have HR := Lib.hid (show fileS wk hs days id fr til d no = (⟨0, 0, 0, 0, 0, 0, 0⟩, 1) by simp [fileS, hh, hl, hc])
        have h5 := conf_no hc
        clear hh hc hl
        rcases h5 with h5 | ⟨h5, h6⟩ | ⟨h5, h6, h7⟩
        all_goals
          go_enter Try.func25, Try.ntmps25
          go_wp2_with (first | (go_at_call 44; refine (rapdate_any _ _).mono ?_; rintro e w' ⟨rfl, rfl⟩) | (go_at_call 45; refine (rmonths_any _ _ _).mono ?_; rintro e w' ⟨rfl, rfl⟩))
          refine (rwvalid_is ((hr.alloc _).alloc _) hn h5).mono ?_
          rintro e w1 ⟨rfl, k1⟩
          have hbox := k1.cells
          go_wp2_with fail
          refine bodyPost_ret (v := .tuple #[.agg #[.int .i64 0, .int .i64 0, .int .i64 0, .int .i64 0, .int .i64 0, .int .i64 0, .int .i64 0], .int .i64 1]) (by simp [results, Try.results25, go_sem, hbox]) rfl ⟨ap_ret HR.out, ?_⟩
          repeat refine Kept.setCell ?_ (by simp) _
          exact (((Kept.refl _).alloc _).alloc _).trans k1
      · have h5 := conf_yes hc
        obtain ⟨h5, h6, h7⟩ := h5
        cases ht : lateB wk hs days d no
        · have HR := Lib.hid (show fileS wk hs days id fr til d no = (⟨id, fr, til, d, lastDayS wk hs d 60, 1, 0⟩, 0) by simp [fileS, hh, hl, hc, ht])
          have ht' : d ≤ lastDayS wk hs no days := by simpa [lateB] using ht
          clear hh hc hl ht
          go_enter Try.func25, Try.ntmps25
          go_wp2_with (first | (go_at_call 44; refine (rapdate_any _ _).mono ?_; rintro e w' ⟨rfl, rfl⟩) | (go_at_call 45; refine (rmonths_any _ _ _).mono ?_; rintro e w' ⟨rfl, rfl⟩))
          refine (rwvalid_is ((hr.alloc _).alloc _) hn h5).mono ?_
          rintro e w1 ⟨rfl, k1⟩
          have B1 := (Blk.new w 41 #[.int .i64 c0, .int .i64 c1, .int .i64 c2, .int .i64 c3, .int .i64 c4, .int .i64 c5, .int .i64 days, .int .i64 wk, .slice A n c]).alloc (.cells #[.int .i64 0, .int .i64 0, .int .i64 0, .int .i64 0, .int .i64 0, .int .i64 0, .int .i64 0] 43) |>.kept k1
          have B2 : Blk w1 (w.heap.size + 1) 43 #[.int .i64 0, .int .i64 0, .int .i64 0, .int .i64 0, .int .i64 0, .int .i64 0, .int .i64 0] := by
            have h := (Blk.new (w.alloc (.cells #[.int .i64 c0, .int .i64 c1, .int .i64 c2, .int .i64 c3, .int .i64 c4, .int .i64 c5, .int .i64 days, .int .i64 wk, .slice A n c] 41)) 43 #[.int .i64 0, .int .i64 0, .int .i64 0, .int .i64 0, .int .i64 0, .int .i64 0, .int .i64 0]).kept k1
            rwa [World.size_alloc] at h
          have b1 := B1.cell
          have l1 := B1.lt
          have l2 := B2.lt
          go_wp2_with fail
          refine (rlast_any _ _ _ _ _ _ ((((hr.alloc _).alloc _).kept k1).alloc _) hn _ _).mono ?_
          rintro e w2 ⟨rfl, k2⟩
          have kk2 : Kept w w2 := ((((((Kept.refl _).alloc _).alloc _).trans k1).alloc _).trans k2)
          have C1 := (B1.alloc (.cells #[.int .i64 id, .int .i64 fr, .int .i64 til, .int .i64 d, .int .i64 0, .int .i64 0, .int .i64 0] 43)).kept k2
          have C2 := (B2.alloc (.cells #[.int .i64 id, .int .i64 fr, .int .i64 til, .int .i64 d, .int .i64 0, .int .i64 0, .int .i64 0] 43)).kept k2
          have C3 := (Blk.new w1 43 #[.int .i64 id, .int .i64 fr, .int .i64 til, .int .i64 d, .int .i64 0, .int .i64 0, .int .i64 0]).kept k2
          have n1 : w.heap.size ≠ w1.heap.size := by omega
          have n2 : w.heap.size + 1 ≠ w1.heap.size := by omega
          have n3 := n2.symm
          have m1 := C1.cell
          have m3 := C3.cell
          have g3 := C3.frozen
          have p3 := C3.lt
          clear b1
          go_wp2_with fail
          have hri : Ints (w2.setCell ⟨w1.heap.size, 5, none⟩ (.int .i64 1)) A n hs := hr.kept (kk2.setCell (by simp; omega) _)
          refine (rlast_any _ _ _ _ _ _ hri hn _ _).mono ?_
          rintro e w3 ⟨rfl, k3⟩
          have D2 := (C2.far (p := ⟨w1.heap.size, 5, none⟩) n2 (.int .i64 1)).kept k3
          have D3 := (C3.set_ 5 (.int .i64 1)).kept k3
          have kk3 : Kept w w3 := (kk2.setCell (p := ⟨w1.heap.size, 5, none⟩) (by simp; omega) _).trans k3
          clear m1 m3 g3 p3
          have m2 := D2.cell
          have g2 := D2.frozen
          have p2 := D2.lt
          have m3 := D3.cell
          have g3 := D3.frozen
          have p3 := D3.lt
          go_wp2_with fail
          refine bodyPost_ret (v := .tuple #[.agg #[.int .i64 id, .int .i64 fr, .int .i64 til, .int .i64 d, .int .i64 (lastDayS wk hs d 60), .int .i64 1, .int .i64 0], .int .i64 0]) (by simp [results, Try.results25, go_sem, m2]) rfl ⟨ap_ret HR.out, ?_⟩
          repeat refine Kept.setCell ?_ (by simp; try omega) _
          exact kk3
        · have HR := Lib.hid (show fileS wk hs days id fr til d no = (⟨id, fr, til, d, d, 6, 0⟩, 0) by simp [fileS, hh, hl, hc, ht])
          have ht' : lastDayS wk hs no days < d := by simpa [lateB] using ht
          clear hh hc hl ht
          go_enter Try.func25, Try.ntmps25
          go_wp2_with (first | (go_at_call 44; refine (rapdate_any _ _).mono ?_; rintro e w' ⟨rfl, rfl⟩) | (go_at_call 45; refine (rmonths_any _ _ _).mono ?_; rintro e w' ⟨rfl, rfl⟩))
          refine (rwvalid_is ((hr.alloc _).alloc _) hn h5).mono ?_
          rintro e w1 ⟨rfl, k1⟩
          have B1 := (Blk.new w 41 #[.int .i64 c0, .int .i64 c1, .int .i64 c2, .int .i64 c3, .int .i64 c4, .int .i64 c5, .int .i64 days, .int .i64 wk, .slice A n c]).alloc (.cells #[.int .i64 0, .int .i64 0, .int .i64 0, .int .i64 0, .int .i64 0, .int .i64 0, .int .i64 0] 43) |>.kept k1
          have B2 : Blk w1 (w.heap.size + 1) 43 #[.int .i64 0, .int .i64 0, .int .i64 0, .int .i64 0, .int .i64 0, .int .i64 0, .int .i64 0] := by
            have h := (Blk.new (w.alloc (.cells #[.int .i64 c0, .int .i64 c1, .int .i64 c2, .int .i64 c3, .int .i64 c4, .int .i64 c5, .int .i64 days, .int .i64 wk, .slice A n c] 41)) 43 #[.int .i64 0, .int .i64 0, .int .i64 0, .int .i64 0, .int .i64 0, .int .i64 0, .int .i64 0]).kept k1
            rwa [World.size_alloc] at h
          have b1 := B1.cell
          have l1 := B1.lt
          have l2 := B2.lt
          go_wp2_with fail
          refine (rlast_any _ _ _ _ _ _ ((((hr.alloc _).alloc _).kept k1).alloc _) hn _ _).mono ?_
          rintro e w2 ⟨rfl, k2⟩
          have kk2 : Kept w w2 := ((((((Kept.refl _).alloc _).alloc _).trans k1).alloc _).trans k2)
          have C1 := (B1.alloc (.cells #[.int .i64 id, .int .i64 fr, .int .i64 til, .int .i64 d, .int .i64 0, .int .i64 0, .int .i64 0] 43)).kept k2
          have C2 := (B2.alloc (.cells #[.int .i64 id, .int .i64 fr, .int .i64 til, .int .i64 d, .int .i64 0, .int .i64 0, .int .i64 0] 43)).kept k2
          have C3 := (Blk.new w1 43 #[.int .i64 id, .int .i64 fr, .int .i64 til, .int .i64 d, .int .i64 0, .int .i64 0, .int .i64 0]).kept k2
          have n1 : w.heap.size ≠ w1.heap.size := by omega
          have n2 : w.heap.size + 1 ≠ w1.heap.size := by omega
          have n3 := n2.symm
          have m1 := C1.cell
          have m3 := C3.cell
          have g3 := C3.frozen
          have p3 := C3.lt
          have m2 := C2.cell
          have g2 := C2.frozen
          have p2 := C2.lt
          clear b1
          go_wp2_with fail
          refine bodyPost_ret (v := .tuple #[.agg #[.int .i64 id, .int .i64 fr, .int .i64 til, .int .i64 d, .int .i64 d, .int .i64 6, .int .i64 0], .int .i64 0]) (by simp [results, Try.results25, go_sem, m2]) rfl ⟨ap_ret HR.out, ?_⟩
          repeat refine Kept.setCell ?_ (by simp; try omega) _
          exact kk2
end
end Go.Proofs.Ytpickiepkdkigaa
