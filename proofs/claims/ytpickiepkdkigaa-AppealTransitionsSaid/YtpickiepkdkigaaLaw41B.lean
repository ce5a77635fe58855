/- The walks of the laws AppealFiles and AppealTransitions. -/
import Derived.Test.YtpickiepkdkigaaLaw41A
import Derived.Test.YtpickiepkdkigaaFrame
namespace Go.Proofs.Ytpickiepkdkigaa
open Go.RowKit

set_option maxHeartbeats 2000000 in
theorem lawFiles (i f t da no c0 c1 c2 c3 c4 c5 days wk : Int) (A : Option Addr) (n c : Nat) (hs : List Int) (w : World) (hr : Ints w A n hs) :
    Calls Try.prog 8 #[.agg #[.int .i64 i, .int .i64 f, .int .i64 t, .int .i64 da, .int .i64 no], .agg #[.int .i64 c0, .int .i64 c1, .int .i64 c2, .int .i64 c3, .int .i64 c4, .int .i64 c5, .int .i64 days, .int .i64 wk, .slice A n c]] w (LawPost w) := by
  by_cases hn : n ≤ 100
  · obtain ⟨⟨⟨x0, x1, x2, x3, x4, x5, x6⟩, k⟩, hf⟩ : ∃ r, fileS wk hs days i f t da no = r := ⟨_, rfl⟩
    have HF := Lib.hid hf
    clear hf
    go_enter Try.func8, Try.ntmps8
    go_wp2_with fail
    refine (file_is ((hr.alloc _).alloc _) hn HF.out).mono ?_
    rintro e w1 ⟨rfl, k1⟩
    have B1 : Blk w1 w.heap.size 39 #[.int .i64 i, .int .i64 f, .int .i64 t, .int .i64 da, .int .i64 no] := ((Blk.new w _ _).alloc _).kept k1
    have B2 : Blk w1 (w.heap.size + 1) 41 #[.int .i64 c0, .int .i64 c1, .int .i64 c2, .int .i64 c3, .int .i64 c4, .int .i64 c5, .int .i64 days, .int .i64 wk, .slice A n c] := by
      have h := (Blk.new (w.alloc (.cells #[.int .i64 i, .int .i64 f, .int .i64 t, .int .i64 da, .int .i64 no] 39)) 41 #[.int .i64 c0, .int .i64 c1, .int .i64 c2, .int .i64 c3, .int .i64 c4, .int .i64 c5, .int .i64 days, .int .i64 wk, .slice A n c]).kept k1
      rwa [World.size_alloc] at h
    have m1 := B1.cell
    have l1 := B1.lt
    have m2 := B2.cell
    have l2 := B2.lt
    go_wp2_with fail
    refine (rfile_is ((((hr.alloc _).alloc _).kept k1).alloc _) hn HF.out).mono ?_
    rintro e w2 ⟨rfl, k2⟩
    have B3 : Blk w2 w1.heap.size 43 #[.int .i64 x0, .int .i64 x1, .int .i64 x2, .int .i64 x3, .int .i64 x4, .int .i64 x5, .int .i64 x6] := (Blk.new w1 _ _).kept k2
    clear m1 m2
    have m3 := B3.cell
    have l3 := B3.lt
    go_wp2_with fail
    refine (awake41_any _).mono ?_
    rintro e w3 ⟨rfl, k3⟩
    go_wp2_with fail
    go_ret
    exact ⟨rfl, (((((((Kept.refl _).alloc _).alloc _).trans k1).alloc _).trans k2).alloc _).trans k3⟩
  · go_enter Try.func8, Try.ntmps8
    go_wp2_with (go_at_call 23; refine (awake41_any _).mono ?_; rintro e w1 ⟨rfl, k1⟩)
    go_ret
    exact ⟨rfl, (((Kept.refl _).alloc _).alloc _).trans k1⟩

set_option maxHeartbeats 2000000 in
theorem lawTransitions (i f t fi de st ce s c d : Int) (w : World) :
    Calls Try.prog 9 #[.agg #[.int .i64 i, .int .i64 f, .int .i64 t, .int .i64 fi, .int .i64 de, .int .i64 st, .int .i64 ce], .int .i64 s, .int .i64 c, .int .i64 d] w (LawPost w) := by
  obtain ⟨⟨⟨x0, x1, x2, x3, x4, x5, x6⟩, k⟩, hf⟩ : ∃ r, transS ⟨i, f, t, fi, de, st, ce⟩ s c d = r := ⟨_, rfl⟩
  obtain ⟨va, hva⟩ : ∃ v, validA ⟨i, f, t, fi, de, st, ce⟩ = v := ⟨_, rfl⟩
  obtain ⟨fa, hfa⟩ : ∃ v, finalA st = v := ⟨_, rfl⟩
  have HF := Lib.hid hf
  have HV := Lib.hid hva
  have HFA := Lib.hid hfa
  clear hf hva hfa
  go_enter Try.func9, Try.ntmps9
  go_wp2_with fail
  refine (trans_is HF.out).mono ?_
  rintro e w1 ⟨rfl, k1⟩
  have B1 : Blk w1 w.heap.size 43 #[.int .i64 i, .int .i64 f, .int .i64 t, .int .i64 fi, .int .i64 de, .int .i64 st, .int .i64 ce] := (Blk.new w _ _).kept k1
  have m1 := B1.cell
  have l1 := B1.lt
  go_wp2_with fail
  refine (rtrans_is HF.out).mono ?_
  rintro e w2 ⟨rfl, k2⟩
  have C1 := (B1.alloc (.cells #[.int .i64 x0, .int .i64 x1, .int .i64 x2, .int .i64 x3, .int .i64 x4, .int .i64 x5, .int .i64 x6] 43)).kept k2
  have C2 : Blk w2 w1.heap.size 43 #[.int .i64 x0, .int .i64 x1, .int .i64 x2, .int .i64 x3, .int .i64 x4, .int .i64 x5, .int .i64 x6] := (Blk.new w1 _ _).kept k2
  have D1 := C1.alloc (.cells #[.int .i64 x0, .int .i64 x1, .int .i64 x2, .int .i64 x3, .int .i64 x4, .int .i64 x5, .int .i64 x6] 43)
  have D2 := C2.alloc (.cells #[.int .i64 x0, .int .i64 x1, .int .i64 x2, .int .i64 x3, .int .i64 x4, .int .i64 x5, .int .i64 x6] 43)
  have D3 := Blk.new w2 43 #[.int .i64 x0, .int .i64 x1, .int .i64 x2, .int .i64 x3, .int .i64 x4, .int .i64 x5, .int .i64 x6]
  have q1 := fun x : KW (w2.alloc (.cells #[.int .i64 x0, .int .i64 x1, .int .i64 x2, .int .i64 x3, .int .i64 x4, .int .i64 x5, .int .i64 x6] 43)) => (D1.kept x.h).cell
  have q2 := fun x : KW (w2.alloc (.cells #[.int .i64 x0, .int .i64 x1, .int .i64 x2, .int .i64 x3, .int .i64 x4, .int .i64 x5, .int .i64 x6] 43)) => (D2.kept x.h).cell
  have q3 := fun x : KW (w2.alloc (.cells #[.int .i64 x0, .int .i64 x1, .int .i64 x2, .int .i64 x3, .int .i64 x4, .int .i64 x5, .int .i64 x6] 43)) => (D3.kept x.h).cell
  clear m1
  go_wp2_with fail
  refine wp_region_kept (by kernel_rfl) (by kernel_rfl) ?_
  repeat (go_big_quiet_step (first | (go_at_call 28; exact KW.call (validA_is HV.out)) | (go_at_call 29; exact KW.call (rvalidA_is HV.out)) | (go_at_call 30; exact KW.call (finalA_is HFA.out)) | (go_at_call 31; exact KW.call (rfinalA_is HFA.out)) | (go_at_call 23; exact KW.call (awake41_any _))))
  refine wpQuiet_nil ?_
  rintro _ ⟨⟨wx, hx⟩, rfl⟩
  go_wp2_with fail
  go_ret
  exact ⟨rfl, (((((Kept.refl _).alloc _).trans k1).alloc _).trans k2).alloc _ |>.trans hx⟩
end Go.Proofs.Ytpickiepkdkigaa
