/- What package value, and its reference, compute: valid values. -/
import Derived.Test.YtemejaomfbhldaaGreatDoorValB
namespace Go.Proofs.YtemejaomfbhldaaGreatDoor
open Go.RowKit

set_option maxRecDepth 100000 in
theorem rtype_any (k e n : Int) (w : World) :
    Calls Tryz.prog 64 #[.agg #[.int .i64 k, .int .i64 e, .int .i64 n]] w fun r w' => r = .returned (.agg #[.int .i64 k, .int .i64 e]) ∧ Kept w w' := by
  go_enter Tryz.func64, Tryz.ntmps64
  go_wp2_with fail
  exact bodyPost_ret (v := .agg #[.int .i64 k, .int .i64 e]) (by simp [results, Tryz.results64, go_sem]) rfl ⟨rfl, by repeat first | exact Kept.refl _ | refine Kept.alloc ?_ _ | refine Kept.setCell ?_ (by simp) _⟩
set_option maxRecDepth 100000 in
set_option maxHeartbeats 4000000 in
theorem rvalid_any (k e n : Int) (v : Value) (ms : List (List ByteArray)) (w : World) (hE : Enums w v ms) :
    Calls Tryz.prog 70 #[.agg #[.int .i64 k, .int .i64 e, .int .i64 n], v] w fun r w' => r = .returned (.bool (validB k e n ms)) ∧ Kept w w' := by
  have hE1 := fun w' (h : Kept w w') => hE.kept h
  have hT := Lib.hid (fun w h => rvtype_any k e v ms w h)
  have hI := Lib.hid (fun w h => rin_any n k e v ms w h)
  unfold validB
  generalize vtB k e ms = a at *
  generalize inB n k e ms = b at *
  cases a <;> cases b
  all_goals
    go_enter Tryz.func70, Tryz.ntmps70
    go_wp2_with fail
    have B := Blk.new w 59 #[.int .i64 k, .int .i64 e, .int .i64 n]
    have c0 := KW.cell B.lt (B.cell 0)
    have c1 := KW.cell B.lt (B.cell 1)
    have c2 := KW.cell B.lt (B.cell 2)
    have hEx := fun x : KW (w.alloc (.cells #[.int .i64 k, .int .i64 e, .int .i64 n] 59)) => hE1 _ (((Kept.refl w).alloc _).trans x.h)
    clear B
    refine wp_region_kept (by kernel_rfl) (by kernel_rfl) ?_
    repeat (go_big_quiet_step (first
      | (go_at_call 64; exact KW.call (rtype_any k e n _))
      | (go_at_call 69; exact KW.call (hT.out _ (hEx _)))
      | (go_at_call 65; exact KW.call (hI.out _ (hEx _)))))
    refine wpQuiet_nil ?_
    rintro _ ⟨⟨wx, hx2⟩, rfl⟩
    go_wp2_with fail
    go_ret
    exact ⟨rfl, ((Kept.refl w).alloc _).trans hx2⟩
end Go.Proofs.YtemejaomfbhldaaGreatDoor
