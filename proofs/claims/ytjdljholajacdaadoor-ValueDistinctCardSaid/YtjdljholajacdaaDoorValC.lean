/- What package value, and its reference, compute: valid values. -/
import Derived.Test.YtjdljholajacdaaDoorValB
namespace Go.Proofs.YtjdljholajacdaaDoor
open Go.RowKit

set_option maxRecDepth 100000 in
set_option maxHeartbeats 4000000 in
theorem valid_any (k e n : Int) (v : Value) (ms : List (List ByteArray)) (w : World) (hE : Enums w v ms) :
    Calls Tryd.prog 22 #[.agg #[.int .i64 k, .int .i64 e, .int .i64 n], v] w fun r w' => r = .returned (.bool (validB k e n ms)) ∧ Kept w w' := by
  have hE1 := fun w' (h : Kept w w') => hE.kept h
  have hT := Lib.hid (fun w h => vtype_any k e v ms w h)
  have hI := Lib.hid (fun w h => within_any n k e v ms w h)
  unfold validB
  generalize vtB k e ms = a at *
  generalize inB n k e ms = b at *
  cases a <;> cases b
  all_goals
    go_enter Tryd.func22, Tryd.ntmps22
    go_wp2_with (first
      | (go_at_call 25; refine (hT.out _ (hE1 _ (((Kept.refl _).alloc _).alloc _))).mono ?_; rintro r w1 ⟨rfl, hk⟩; have hK := (((Kept.refl _).alloc _).alloc _).trans hk; have B := hk.blk2.1; have B2 := hk.blk2.2; have c1 := B.cell 2; have c2 := B2.cell 0; have c3 := B2.cell 1; have B2lt := B2.lt; clear B B2 hk)
      | (go_at_call 38; refine (hI.out _ (hE1 _ hK)).mono ?_; rintro r w2 ⟨rfl, hk2⟩; have hK := hK.trans hk2))
    go_ret
    exact ⟨rfl, hK⟩

set_option maxRecDepth 100000 in
theorem rtype_any (k e n : Int) (w : World) :
    Calls Tryd.prog 21 #[.agg #[.int .i64 k, .int .i64 e, .int .i64 n]] w fun r w' => r = .returned (.agg #[.int .i64 k, .int .i64 e]) ∧ Kept w w' := by
  go_enter Tryd.func21, Tryd.ntmps21
  go_wp2_with fail
  exact bodyPost_ret (v := .agg #[.int .i64 k, .int .i64 e]) (by simp [results, Tryd.results21, go_sem]) rfl ⟨rfl, by repeat first | exact Kept.refl _ | refine Kept.alloc ?_ _ | refine Kept.setCell ?_ (by simp) _⟩
set_option maxRecDepth 100000 in
theorem zero_any (k e : Int) (w : World) :
    Calls Tryd.prog 27 #[.agg #[.int .i64 k, .int .i64 e]] w fun r w' => r = .returned (.agg #[.int .i64 k, .int .i64 e, .int .i64 0]) ∧ Kept w w' := by
  go_enter Tryd.func27, Tryd.ntmps27
  go_wp2_with fail
  exact bodyPost_ret (v := .agg #[.int .i64 k, .int .i64 e, .int .i64 0]) (by simp [results, Tryd.results27, go_sem]) rfl ⟨rfl, by repeat first | exact Kept.refl _ | refine Kept.alloc ?_ _ | refine Kept.setCell ?_ (by simp) _⟩
set_option maxRecDepth 100000 in
theorem rzero_any (k e : Int) (w : World) :
    Calls Tryd.prog 28 #[.agg #[.int .i64 k, .int .i64 e]] w fun r w' => r = .returned (.agg #[.int .i64 k, .int .i64 e, .int .i64 0]) ∧ Kept w w' := by
  go_enter Tryd.func28, Tryd.ntmps28
  go_wp2_with fail
  exact bodyPost_ret (v := .agg #[.int .i64 k, .int .i64 e, .int .i64 0]) (by simp [results, Tryd.results28, go_sem]) rfl ⟨rfl, by repeat first | exact Kept.refl _ | refine Kept.alloc ?_ _ | refine Kept.setCell ?_ (by simp) _⟩

set_option maxRecDepth 100000 in
set_option maxHeartbeats 4000000 in
theorem rvalid_any (k e n : Int) (v : Value) (ms : List (List ByteArray)) (w : World) (hE : Enums w v ms) :
    Calls Tryd.prog 20 #[.agg #[.int .i64 k, .int .i64 e, .int .i64 n], v] w fun r w' => r = .returned (.bool (validB k e n ms)) ∧ Kept w w' := by
  have hE1 := fun w' (h : Kept w w') => hE.kept h
  have hT := Lib.hid (fun w h => rvtype_any k e v ms w h)
  have hI := Lib.hid (fun w h => rin_any n k e v ms w h)
  unfold validB
  generalize vtB k e ms = a at *
  generalize inB n k e ms = b at *
  cases a <;> cases b
  all_goals
    go_enter Tryd.func20, Tryd.ntmps20
    go_wp2_with fail
    have B := Blk.new w 23 #[.int .i64 k, .int .i64 e, .int .i64 n]
    have c0 := KW.cell B.lt (B.cell 0)
    have c1 := KW.cell B.lt (B.cell 1)
    have c2 := KW.cell B.lt (B.cell 2)
    have hEx := fun x : KW (w.alloc (.cells #[.int .i64 k, .int .i64 e, .int .i64 n] 23)) => hE1 _ (((Kept.refl w).alloc _).trans x.h)
    clear B
    refine wp_region_kept (by kernel_rfl) (by kernel_rfl) ?_
    repeat (go_big_quiet_step (first
      | (go_at_call 21; exact KW.call (rtype_any k e n _))
      | (go_at_call 26; exact KW.call (hT.out _ (hEx _)))
      | (go_at_call 47; exact KW.call (hI.out _ (hEx _)))))
    refine wpQuiet_nil ?_
    rintro _ ⟨⟨wx, hx2⟩, rfl⟩
    go_wp2_with fail
    go_ret
    exact ⟨rfl, ((Kept.refl w).alloc _).trans hx2⟩
end Go.Proofs.YtjdljholajacdaaDoor
