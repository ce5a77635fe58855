/- What Parse of package value computes. -/
import Derived.Test.YtjdljholajacdaaDoorValF
namespace Go.Proofs.YtjdljholajacdaaDoor
open Go.RowKit

set_option maxHeartbeats 1000000 in
theorem vparseN_any (s : ByteArray) (k e : Int) (v : Value) (ms : List (List ByteArray)) (hv : vtB k e ms = true) (hs : k ≠ 6 → s.size ≤ 1000000) (w : World) (hE : Enums w v ms) (hM : Mon w) :
    Calls Tryd.prog 45 #[.string s, .agg #[.int .i64 k, .int .i64 e], v] w fun r w' => r = .returned (.tuple #[.int .i64 (vnumS s k e ms).1, .int .i64 (vnumS s k e ms).2]) ∧ Kept w w' := by
  rcases vt_true hv with ⟨hk, rfl⟩ | ⟨rfl, j, rfl, hj⟩
  · exact vparseN_low s k hk v ms w (hs (by omega)) hM
  · exact vparseN_six s j v ms hj w hE
/-- a value and an error code, as Go returns them -/
def vpV (R : Int × Int × Int × Int) : Value := .tuple #[.agg #[.int .i64 R.1, .int .i64 R.2.1, .int .i64 R.2.2.1], .int .i64 R.2.2.2]

set_option maxRecDepth 100000 in
set_option maxHeartbeats 8000000 in
theorem vparse_any (s : ByteArray) (k e : Int) (v : Value) (ms : List (List ByteArray)) (hs : k ≠ 6 → s.size ≤ 1000000) (w : World) (hE : Enums w v ms) (hM : Mon w) :
    Calls Tryd.prog 18 #[.string s, .agg #[.int .i64 k, .int .i64 e], v] w fun r w' => r = .returned (vpV (vparS s k e ms)) ∧ Kept w w' := by
  have hE1 := fun w' (h : Kept w w') => hE.kept h
  have hT := Lib.hid (fun w h => vtype_any k e v ms w h)
  cases hv : vtB k e ms
  · have HR := Lib.hid (show vparS s k e ms = (0, 0, 0, 8) by rw [vparS, hv]; rfl)
    rw [hv] at hT
    clear hv
    go_enter Tryd.func18, Tryd.ntmps18
    go_wp2_with (go_at_call 25; refine (hT.out _ (hE1 _ (((Kept.refl _).alloc _).alloc _))).mono ?_; rintro r w1 ⟨rfl, hk⟩; have hK := (((Kept.refl _).alloc _).alloc _).trans hk; have B := hk.blk2.2; have b := B.cell; have l := B.lt; have f := B.frozen)
    refine bodyPost_ret (v := vpV (vparS s k e ms)) (by rw [HR.out]; simp [vpV, results, Tryd.results18, go_sem, b]) rfl ⟨rfl, ?_⟩
    repeat refine Kept.setCell ?_ (by simp only; omega) _
    exact hK
  have hN := Lib.hid (fun w h hM => vparseN_any s k e v ms hv hs w h hM)
  have hI := Lib.hid (fun n w h => within_any n k e v ms w h)
  have HV : vparS s k e ms = (if (vnumS s k e ms).2 = 0 then (if inB (vnumS s k e ms).1 k e ms then (k, e, (vnumS s k e ms).1, 0) else (0, 0, 0, 3)) else (0, 0, 0, (vnumS s k e ms).2)) := by rw [vparS, hv]; rfl
  rw [hv] at hT
  clear hv
  generalize vnumS s k e ms = N at *
  obtain ⟨n, c⟩ := N
  dsimp only at HV hN
  by_cases hc : c = 0
  · subst hc
    rw [if_pos rfl] at HV
    have hI := Lib.hid (hI.out n)
    generalize inB n k e ms = i at *
    cases i
    · have HR := Lib.hid (show vparS s k e ms = (0, 0, 0, 3) from HV)
      clear HV
      go_enter Tryd.func18, Tryd.ntmps18
      go_wp2_with (first
        | (go_at_call 25; refine (hT.out _ (hE1 _ (((Kept.refl _).alloc _).alloc _))).mono ?_; rintro r w1 ⟨rfl, hk⟩; have hK := (((Kept.refl _).alloc _).alloc _).trans hk; have B := hk.blk2.2; have b := B.cell; have l := B.lt; have f := B.frozen; have T := hk.blk2.1; have t := T.cell)
        | (go_at_call 45; refine (hN.out _ (hE1 _ hK) (hM.kept hK)).mono ?_; rintro r w2 ⟨rfl, hk⟩; have hK := hK.trans hk; have B := B.kept hk; have b := B.cell; have l := B.lt; have f := B.frozen; have T := T.kept hk; have t := T.cell)
        | (go_at_call 38; refine (hI.out _ (hE1 _ hK)).mono ?_; rintro r w3 ⟨rfl, hk⟩; have hK := hK.trans hk; have B := B.kept hk; have b := B.cell; have l := B.lt; have f := B.frozen; have T := T.kept hk; have t := T.cell))
      refine bodyPost_ret (v := vpV (vparS s k e ms)) (by rw [HR.out]; simp [vpV, results, Tryd.results18, go_sem, b]) rfl ⟨rfl, ?_⟩
      repeat refine Kept.setCell ?_ (by simp only; omega) _
      exact hK
    · have HR := Lib.hid (show vparS s k e ms = (k, e, n, 0) from HV)
      clear HV
      go_enter Tryd.func18, Tryd.ntmps18
      go_wp2_with (first
        | (go_at_call 25; refine (hT.out _ (hE1 _ (((Kept.refl _).alloc _).alloc _))).mono ?_; rintro r w1 ⟨rfl, hk⟩; have hK := (((Kept.refl _).alloc _).alloc _).trans hk; have B := hk.blk2.2; have b := B.cell; have l := B.lt; have f := B.frozen; have T := hk.blk2.1; have t := T.cell)
        | (go_at_call 45; refine (hN.out _ (hE1 _ hK) (hM.kept hK)).mono ?_; rintro r w2 ⟨rfl, hk⟩; have hK := hK.trans hk; have B := B.kept hk; have b := B.cell; have l := B.lt; have f := B.frozen; have T := T.kept hk; have t := T.cell)
        | (go_at_call 38; refine (hI.out _ (hE1 _ hK)).mono ?_; rintro r w3 ⟨rfl, hk⟩; have hK := hK.trans hk; have B := B.kept hk; have b := B.cell; have l := B.lt; have f := B.frozen; have T := T.kept hk; have t := T.cell))
      refine bodyPost_ret (v := vpV (vparS s k e ms)) (by rw [HR.out]; simp [vpV, results, Tryd.results18, go_sem, b]) rfl ⟨rfl, ?_⟩
      repeat refine Kept.setCell ?_ (by simp only; omega) _
      exact hK
  · have HR := Lib.hid (show vparS s k e ms = (0, 0, 0, c) by rw [HV, if_neg hc])
    have hcb := beq_no hc
    clear HV hI
    go_enter Tryd.func18, Tryd.ntmps18
    go_wp2_with (first
      | (go_at_call 25; refine (hT.out _ (hE1 _ (((Kept.refl _).alloc _).alloc _))).mono ?_; rintro r w1 ⟨rfl, hk⟩; have hK := (((Kept.refl _).alloc _).alloc _).trans hk; have B := hk.blk2.2; have b := B.cell; have l := B.lt; have f := B.frozen; have T := hk.blk2.1; have t := T.cell)
      | (go_at_call 45; refine (hN.out _ (hE1 _ hK) (hM.kept hK)).mono ?_; rintro r w2 ⟨rfl, hk⟩; have hK := hK.trans hk; have B := B.kept hk; have b := B.cell; have l := B.lt; have f := B.frozen; have T := T.kept hk; have t := T.cell))
    refine bodyPost_ret (v := vpV (vparS s k e ms)) (by rw [HR.out]; simp [vpV, results, Tryd.results18, go_sem, b]) rfl ⟨rfl, ?_⟩
    repeat refine Kept.setCell ?_ (by simp only; omega) _
    exact hK
end Go.Proofs.YtjdljholajacdaaDoor
