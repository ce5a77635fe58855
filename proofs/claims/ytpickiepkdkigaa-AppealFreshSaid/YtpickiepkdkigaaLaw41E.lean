/- The walk of the law AppealFresh. -/
import Derived.Test.YtpickiepkdkigaaLaw41A
import Derived.Test.YtpickiepkdkigaaFrame
namespace Go.Proofs.Ytpickiepkdkigaa
open Go.RowKit

theorem fresh_trans1 {i f t d de : Int} : transS ⟨i, f, t, d, de, 1, 0⟩ 5 0 d = (⟨i, f, t, d, de, 5, 0⟩, 0) := by
  simp [transS, permB, tardyB, centsB]
theorem fresh_trans6 {i f t d de : Int} : transS ⟨i, f, t, d, de, 6, 0⟩ 5 0 d = (⟨0, 0, 0, 0, 0, 0, 0⟩, 13) := by
  simp [transS, permB]

theorem lawFresh_walk (i f t da no c0 c1 c2 c3 c4 c5 days wk : Int) (A : Option Addr) (n c : Nat) (hs : List Int) (w : World) (hr : Ints w A n hs) (hn : n ≤ 100)
    (x0 x1 x2 x4 x5 : Int) (hf : fileS wk hs days i f t da no = (⟨x0, x1, x2, da, x4, x5, 0⟩, 0)) (hv : validA ⟨x0, x1, x2, da, x4, x5, 0⟩ = true)
    (h : (x5 = 1 ∧ transS ⟨x0, x1, x2, da, x4, x5, 0⟩ 5 0 da = (⟨x0, x1, x2, da, x4, 5, 0⟩, 0)) ∨ (x5 = 6 ∧ transS ⟨x0, x1, x2, da, x4, x5, 0⟩ 5 0 da = (⟨0, 0, 0, 0, 0, 0, 0⟩, 13))) :
    Calls Try.prog 11 #[.agg #[.int .i64 i, .int .i64 f, .int .i64 t, .int .i64 da, .int .i64 no], .agg #[.int .i64 c0, .int .i64 c1, .int .i64 c2, .int .i64 c3, .int .i64 c4, .int .i64 c5, .int .i64 days, .int .i64 wk, .slice A n c]] w (LawPost w) := by
  have HF := Lib.hid hf
  have HV := Lib.hid hv
  clear hf hv
  rcases h with ⟨rfl, ht⟩ | ⟨rfl, ht⟩
  all_goals
    have HT := Lib.hid ht
    clear ht
    go_enter Try.func11, Try.ntmps11
    go_wp2_with fail
    refine (file_is ((hr.alloc _).alloc _) hn HF.out).mono ?_
    rintro e w1 ⟨rfl, k1⟩
    have B1 : Blk w1 w.heap.size 39 #[.int .i64 i, .int .i64 f, .int .i64 t, .int .i64 da, .int .i64 no] := ((Blk.new w _ _).alloc _).kept k1
    have m1 := B1.cell
    have l1 := B1.lt
    go_wp2_with fail
    refine (trans_is HT.out).mono ?_
    rintro e w2 ⟨rfl, k2⟩
    have C1 := (Blk.new w1 43 _).kept k2
    clear m1
    have m2 := C1.cell
    have l2 := C1.lt
    go_wp2_with fail
    refine (validA_is HV.out).mono ?_
    rintro e w3 ⟨rfl, k3⟩
    have D1 := (C1.alloc _).kept k3
    have D2 := (Blk.new w2 43 _).kept k3
    clear m2
    have m3 := D1.cell
    have l3 := D1.lt
    have m4 := D2.cell
    have l4 := D2.lt
    go_wp2_with fail
    refine (finalA_is rfl).mono ?_
    rintro e w4 ⟨rfl, k4⟩
    have E1 := D1.kept k4
    have E2 := D2.kept k4
    clear m3 m4
    have m5 := E1.cell
    have l5 := E1.lt
    have m6 := E2.cell
    have l6 := E2.lt
    go_wp2_with fail
    refine (finalA_is rfl).mono ?_
    rintro e w5 ⟨rfl, k5⟩
    go_wp2_with fail
    refine (awake41_any _).mono ?_
    rintro e w6 ⟨rfl, k6⟩
    go_wp2_with fail
    go_ret
    exact ⟨rfl, (((((((((Kept.refl _).alloc _).alloc _).trans k1).alloc _).trans k2).alloc _).trans k3).trans k4).trans k5 |>.trans k6⟩

set_option maxHeartbeats 2000000 in
theorem lawFresh (i f t da no c0 c1 c2 c3 c4 c5 days wk : Int) (A : Option Addr) (n c : Nat) (hs : List Int) (w : World) (hr : Ints w A n hs) :
    Calls Try.prog 11 #[.agg #[.int .i64 i, .int .i64 f, .int .i64 t, .int .i64 da, .int .i64 no], .agg #[.int .i64 c0, .int .i64 c1, .int .i64 c2, .int .i64 c3, .int .i64 c4, .int .i64 c5, .int .i64 days, .int .i64 wk, .slice A n c]] w (LawPost w) := by
  by_cases hn : n ≤ 100
  · obtain ⟨⟨⟨x0, x1, x2, x3, x4, x5, x6⟩, k⟩, hf⟩ : ∃ r, fileS wk hs days i f t da no = r := ⟨_, rfl⟩
    cases hk : (k == 0)
    · have hc := file_code (wk := wk) (hs := hs) (days := days) (id := i) (fr := f) (til := t) (d := da) (no := no) (by rw [hf]; simpa using hk)
      rw [hf] at hc
      simp only [Ap.mk.injEq] at hc
      obtain ⟨rfl, rfl, rfl, rfl, rfl, rfl, rfl⟩ := hc
      have hk2 : (k != 0) = true := by simpa using hk
      have HF := Lib.hid hf
      clear hf
      go_enter Try.func11, Try.ntmps11
      go_wp2_with fail
      refine (file_is ((hr.alloc _).alloc _) hn HF.out).mono ?_
      rintro e w1 ⟨rfl, k1⟩
      go_wp2_with fail
      refine (awake41_any _).mono ?_
      rintro e w2 ⟨rfl, k2⟩
      go_wp2_with fail
      go_ret
      exact ⟨rfl, ((((((Kept.refl _).alloc _).alloc _).trans k1).alloc _).trans k2)⟩
    · have hk0 : k = 0 := by simpa using hk
      subst hk0
      have hc := file_ok (wk := wk) (hs := hs) (days := days) (id := i) (fr := f) (til := t) (d := da) (no := no) (by rw [hf])
      rw [hf] at hc
      simp only at hc
      obtain ⟨h1, h2, h3, h4, h5⟩ := hc
      subst h2 h3
      refine lawFresh_walk i f t x3 no c0 c1 c2 c3 c4 c5 days wk A n c hs w hr hn x0 x1 x2 x4 x5 hf h1 ?_
      rcases h5 with rfl | rfl
      · exact .inl ⟨rfl, fresh_trans1⟩
      · exact .inr ⟨rfl, fresh_trans6⟩
  · go_enter Try.func11, Try.ntmps11
    go_wp2_with (go_at_call 23; refine (awake41_any _).mono ?_; rintro e w1 ⟨rfl, k1⟩)
    go_ret
    exact ⟨rfl, (((Kept.refl _).alloc _).alloc _).trans k1⟩
end Go.Proofs.Ytpickiepkdkigaa
