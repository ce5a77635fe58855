/- What render of package exprtext computes. (Printed by wip/genetrend.py.) -/
import Derived.Test.YtdnjfpmngnkcfaaGreatDoorEtA
import Derived.Test.YtdnjfpmngnkcfaaGreatDoorTail
namespace Go.Proofs.YtdnjfpmngnkcfaaGreatDoor
open Go.RowKit

section
variable (n : Int) (av : Value) (AE AT AI AD AM : Option Addr) (ne ce nt ct ni ci nd cd nmm cm : Nat) (w : World)
set_option maxRecDepth 100000 in
set_option maxHeartbeats 16000000 in
theorem rend_lit (o : Int) (ho : o = 1 ∨ o = 2 ∨ o = 3 ∨ o = 4 ∨ o = 5) (P : ByteArray) (pc cc : Int) (pb : Bool) (A0 : Option Addr) (n0 c0 : Nat)
    (H : ∀ w1, Kept w w1 → Calls Tryz.prog 24 #[.agg #[.int .i64 o, .int .i64 n]] w1 fun e w' => e = .returned (.tuple #[.agg #[.string P, .int .i64 pc, .bool pb], .int .i64 cc]) ∧ Kept w1 w') :
    Calls Tryz.prog 17 #[.agg #[.int .i64 o, .int .i64 n], .slice A0 n0 c0, .agg #[.slice AE ne ce, .slice AT nt ct, .slice AI ni ci, .slice AD nd cd, .slice AM nmm cm]] w fun e w' => e = .returned (.tuple #[.agg #[.string P, .int .i64 pc, .bool pb], .int .i64 cc]) ∧ Kept w w' := by
  have HH := Lib.hid H
  clear H
  rcases ho with rfl | rfl | rfl | rfl | rfl
  · have K0 := Lib.hid ((((Kept.refl w).alloc (.cells #[.int .i64 1, .int .i64 n] 41)).alloc (.cells #[.slice AE ne ce, .slice AT nt ct, .slice AI ni ci, .slice AD nd cd, .slice AM nmm cm] 26)).alloc (.cells #[.string ⟨#[]⟩, .int .i64 0, .bool false] 50))
    go_enter Tryz.func17, Tryz.ntmps17
    go_wp2_with (go_at_call 24; refine (HH.out _ K0.out).mono ?_; rintro e w5 ⟨rfl, k5⟩; obtain ⟨B1, B2, C3⟩ := k5.blk3; have c3c := C3.cell; have c3l := C3.lt; have c3f := C3.frozen)
    have KX := K0.out.trans k5
    have BW : Blk (((w5.setCell ⟨w.heap.size + 1 + 1, 0, none⟩ (.string P)).setCell ⟨w.heap.size + 1 + 1, 1, none⟩ (.int .i64 pc)).setCell ⟨w.heap.size + 1 + 1, 2, none⟩ (.bool pb)) (w.heap.size + 1 + 1) 50 #[.string P, .int .i64 pc, .bool pb] := ((C3.set_ 0 (.string P)).set_ 1 (.int .i64 pc)).set_ 2 (.bool pb)
    have KF : Kept w (((w5.setCell ⟨w.heap.size + 1 + 1, 0, none⟩ (.string P)).setCell ⟨w.heap.size + 1 + 1, 1, none⟩ (.int .i64 pc)).setCell ⟨w.heap.size + 1 + 1, 2, none⟩ (.bool pb)) := by
      repeat refine Kept.setCell ?_ (by simp only; omega) _
      exact KX
    generalize ((w5.setCell ⟨w.heap.size + 1 + 1, 0, none⟩ (.string P)).setCell ⟨w.heap.size + 1 + 1, 1, none⟩ (.int .i64 pc)).setCell ⟨w.heap.size + 1 + 1, 2, none⟩ (.bool pb) = WW at *
    have bw := BW.cell
    refine bodyPost_ret (v := .tuple #[.agg #[.string P, .int .i64 pc, .bool pb], .int .i64 cc]) (by simp [results, Tryz.results17, go_sem, bw]) rfl ⟨rfl, KF⟩
  · have K0 := Lib.hid ((((Kept.refl w).alloc (.cells #[.int .i64 2, .int .i64 n] 41)).alloc (.cells #[.slice AE ne ce, .slice AT nt ct, .slice AI ni ci, .slice AD nd cd, .slice AM nmm cm] 26)).alloc (.cells #[.string ⟨#[]⟩, .int .i64 0, .bool false] 50))
    go_enter Tryz.func17, Tryz.ntmps17
    go_wp2_with (go_at_call 24; refine (HH.out _ K0.out).mono ?_; rintro e w5 ⟨rfl, k5⟩; obtain ⟨B1, B2, C3⟩ := k5.blk3; have c3c := C3.cell; have c3l := C3.lt; have c3f := C3.frozen)
    have KX := K0.out.trans k5
    have BW : Blk (((w5.setCell ⟨w.heap.size + 1 + 1, 0, none⟩ (.string P)).setCell ⟨w.heap.size + 1 + 1, 1, none⟩ (.int .i64 pc)).setCell ⟨w.heap.size + 1 + 1, 2, none⟩ (.bool pb)) (w.heap.size + 1 + 1) 50 #[.string P, .int .i64 pc, .bool pb] := ((C3.set_ 0 (.string P)).set_ 1 (.int .i64 pc)).set_ 2 (.bool pb)
    have KF : Kept w (((w5.setCell ⟨w.heap.size + 1 + 1, 0, none⟩ (.string P)).setCell ⟨w.heap.size + 1 + 1, 1, none⟩ (.int .i64 pc)).setCell ⟨w.heap.size + 1 + 1, 2, none⟩ (.bool pb)) := by
      repeat refine Kept.setCell ?_ (by simp only; omega) _
      exact KX
    generalize ((w5.setCell ⟨w.heap.size + 1 + 1, 0, none⟩ (.string P)).setCell ⟨w.heap.size + 1 + 1, 1, none⟩ (.int .i64 pc)).setCell ⟨w.heap.size + 1 + 1, 2, none⟩ (.bool pb) = WW at *
    have bw := BW.cell
    refine bodyPost_ret (v := .tuple #[.agg #[.string P, .int .i64 pc, .bool pb], .int .i64 cc]) (by simp [results, Tryz.results17, go_sem, bw]) rfl ⟨rfl, KF⟩
  · have K0 := Lib.hid ((((Kept.refl w).alloc (.cells #[.int .i64 3, .int .i64 n] 41)).alloc (.cells #[.slice AE ne ce, .slice AT nt ct, .slice AI ni ci, .slice AD nd cd, .slice AM nmm cm] 26)).alloc (.cells #[.string ⟨#[]⟩, .int .i64 0, .bool false] 50))
    go_enter Tryz.func17, Tryz.ntmps17
    go_wp2_with (go_at_call 24; refine (HH.out _ K0.out).mono ?_; rintro e w5 ⟨rfl, k5⟩; obtain ⟨B1, B2, C3⟩ := k5.blk3; have c3c := C3.cell; have c3l := C3.lt; have c3f := C3.frozen)
    have KX := K0.out.trans k5
    have BW : Blk (((w5.setCell ⟨w.heap.size + 1 + 1, 0, none⟩ (.string P)).setCell ⟨w.heap.size + 1 + 1, 1, none⟩ (.int .i64 pc)).setCell ⟨w.heap.size + 1 + 1, 2, none⟩ (.bool pb)) (w.heap.size + 1 + 1) 50 #[.string P, .int .i64 pc, .bool pb] := ((C3.set_ 0 (.string P)).set_ 1 (.int .i64 pc)).set_ 2 (.bool pb)
    have KF : Kept w (((w5.setCell ⟨w.heap.size + 1 + 1, 0, none⟩ (.string P)).setCell ⟨w.heap.size + 1 + 1, 1, none⟩ (.int .i64 pc)).setCell ⟨w.heap.size + 1 + 1, 2, none⟩ (.bool pb)) := by
      repeat refine Kept.setCell ?_ (by simp only; omega) _
      exact KX
    generalize ((w5.setCell ⟨w.heap.size + 1 + 1, 0, none⟩ (.string P)).setCell ⟨w.heap.size + 1 + 1, 1, none⟩ (.int .i64 pc)).setCell ⟨w.heap.size + 1 + 1, 2, none⟩ (.bool pb) = WW at *
    have bw := BW.cell
    refine bodyPost_ret (v := .tuple #[.agg #[.string P, .int .i64 pc, .bool pb], .int .i64 cc]) (by simp [results, Tryz.results17, go_sem, bw]) rfl ⟨rfl, KF⟩
  · have K0 := Lib.hid ((((Kept.refl w).alloc (.cells #[.int .i64 4, .int .i64 n] 41)).alloc (.cells #[.slice AE ne ce, .slice AT nt ct, .slice AI ni ci, .slice AD nd cd, .slice AM nmm cm] 26)).alloc (.cells #[.string ⟨#[]⟩, .int .i64 0, .bool false] 50))
    go_enter Tryz.func17, Tryz.ntmps17
    go_wp2_with (go_at_call 24; refine (HH.out _ K0.out).mono ?_; rintro e w5 ⟨rfl, k5⟩; obtain ⟨B1, B2, C3⟩ := k5.blk3; have c3c := C3.cell; have c3l := C3.lt; have c3f := C3.frozen)
    have KX := K0.out.trans k5
    have BW : Blk (((w5.setCell ⟨w.heap.size + 1 + 1, 0, none⟩ (.string P)).setCell ⟨w.heap.size + 1 + 1, 1, none⟩ (.int .i64 pc)).setCell ⟨w.heap.size + 1 + 1, 2, none⟩ (.bool pb)) (w.heap.size + 1 + 1) 50 #[.string P, .int .i64 pc, .bool pb] := ((C3.set_ 0 (.string P)).set_ 1 (.int .i64 pc)).set_ 2 (.bool pb)
    have KF : Kept w (((w5.setCell ⟨w.heap.size + 1 + 1, 0, none⟩ (.string P)).setCell ⟨w.heap.size + 1 + 1, 1, none⟩ (.int .i64 pc)).setCell ⟨w.heap.size + 1 + 1, 2, none⟩ (.bool pb)) := by
      repeat refine Kept.setCell ?_ (by simp only; omega) _
      exact KX
    generalize ((w5.setCell ⟨w.heap.size + 1 + 1, 0, none⟩ (.string P)).setCell ⟨w.heap.size + 1 + 1, 1, none⟩ (.int .i64 pc)).setCell ⟨w.heap.size + 1 + 1, 2, none⟩ (.bool pb) = WW at *
    have bw := BW.cell
    refine bodyPost_ret (v := .tuple #[.agg #[.string P, .int .i64 pc, .bool pb], .int .i64 cc]) (by simp [results, Tryz.results17, go_sem, bw]) rfl ⟨rfl, KF⟩
  · have K0 := Lib.hid ((((Kept.refl w).alloc (.cells #[.int .i64 5, .int .i64 n] 41)).alloc (.cells #[.slice AE ne ce, .slice AT nt ct, .slice AI ni ci, .slice AD nd cd, .slice AM nmm cm] 26)).alloc (.cells #[.string ⟨#[]⟩, .int .i64 0, .bool false] 50))
    go_enter Tryz.func17, Tryz.ntmps17
    go_wp2_with (go_at_call 24; refine (HH.out _ K0.out).mono ?_; rintro e w5 ⟨rfl, k5⟩; obtain ⟨B1, B2, C3⟩ := k5.blk3; have c3c := C3.cell; have c3l := C3.lt; have c3f := C3.frozen)
    have KX := K0.out.trans k5
    have BW : Blk (((w5.setCell ⟨w.heap.size + 1 + 1, 0, none⟩ (.string P)).setCell ⟨w.heap.size + 1 + 1, 1, none⟩ (.int .i64 pc)).setCell ⟨w.heap.size + 1 + 1, 2, none⟩ (.bool pb)) (w.heap.size + 1 + 1) 50 #[.string P, .int .i64 pc, .bool pb] := ((C3.set_ 0 (.string P)).set_ 1 (.int .i64 pc)).set_ 2 (.bool pb)
    have KF : Kept w (((w5.setCell ⟨w.heap.size + 1 + 1, 0, none⟩ (.string P)).setCell ⟨w.heap.size + 1 + 1, 1, none⟩ (.int .i64 pc)).setCell ⟨w.heap.size + 1 + 1, 2, none⟩ (.bool pb)) := by
      repeat refine Kept.setCell ?_ (by simp only; omega) _
      exact KX
    generalize ((w5.setCell ⟨w.heap.size + 1 + 1, 0, none⟩ (.string P)).setCell ⟨w.heap.size + 1 + 1, 1, none⟩ (.int .i64 pc)).setCell ⟨w.heap.size + 1 + 1, 2, none⟩ (.bool pb) = WW at *
    have bw := BW.cell
    refine bodyPost_ret (v := .tuple #[.agg #[.string P, .int .i64 pc, .bool pb], .int .i64 cc]) (by simp [results, Tryz.results17, go_sem, bw]) rfl ⟨rfl, KF⟩
set_option maxRecDepth 100000 in
set_option maxHeartbeats 16000000 in
theorem rend_nam (o : Int) (ho : o = 6 ∨ o = 7 ∨ o = 8 ∨ o = 36 ∨ o = 37 ∨ o = 38 ∨ o = 39) (P : ByteArray) (pc cc : Int) (pb : Bool) (A0 : Option Addr) (n0 c0 : Nat)
    (H : ∀ w1, Kept w w1 → Calls Tryz.prog 25 #[.agg #[.int .i64 o, .int .i64 n], .agg #[.slice AE ne ce, .slice AT nt ct, .slice AI ni ci, .slice AD nd cd, .slice AM nmm cm]] w1 fun e w' => e = .returned (.tuple #[.agg #[.string P, .int .i64 pc, .bool pb], .int .i64 cc]) ∧ Kept w1 w') :
    Calls Tryz.prog 17 #[.agg #[.int .i64 o, .int .i64 n], .slice A0 n0 c0, .agg #[.slice AE ne ce, .slice AT nt ct, .slice AI ni ci, .slice AD nd cd, .slice AM nmm cm]] w fun e w' => e = .returned (.tuple #[.agg #[.string P, .int .i64 pc, .bool pb], .int .i64 cc]) ∧ Kept w w' := by
  have HH := Lib.hid H
  clear H
  rcases ho with rfl | rfl | rfl | rfl | rfl | rfl | rfl
  · have K0 := Lib.hid ((((Kept.refl w).alloc (.cells #[.int .i64 6, .int .i64 n] 41)).alloc (.cells #[.slice AE ne ce, .slice AT nt ct, .slice AI ni ci, .slice AD nd cd, .slice AM nmm cm] 26)).alloc (.cells #[.string ⟨#[]⟩, .int .i64 0, .bool false] 50))
    go_enter Tryz.func17, Tryz.ntmps17
    go_wp2_with (go_at_call 25; refine (HH.out _ K0.out).mono ?_; rintro e w5 ⟨rfl, k5⟩; obtain ⟨B1, B2, C3⟩ := k5.blk3; have c3c := C3.cell; have c3l := C3.lt; have c3f := C3.frozen)
    have KX := K0.out.trans k5
    have BW : Blk (((w5.setCell ⟨w.heap.size + 1 + 1, 0, none⟩ (.string P)).setCell ⟨w.heap.size + 1 + 1, 1, none⟩ (.int .i64 pc)).setCell ⟨w.heap.size + 1 + 1, 2, none⟩ (.bool pb)) (w.heap.size + 1 + 1) 50 #[.string P, .int .i64 pc, .bool pb] := ((C3.set_ 0 (.string P)).set_ 1 (.int .i64 pc)).set_ 2 (.bool pb)
    have KF : Kept w (((w5.setCell ⟨w.heap.size + 1 + 1, 0, none⟩ (.string P)).setCell ⟨w.heap.size + 1 + 1, 1, none⟩ (.int .i64 pc)).setCell ⟨w.heap.size + 1 + 1, 2, none⟩ (.bool pb)) := by
      repeat refine Kept.setCell ?_ (by simp only; omega) _
      exact KX
    generalize ((w5.setCell ⟨w.heap.size + 1 + 1, 0, none⟩ (.string P)).setCell ⟨w.heap.size + 1 + 1, 1, none⟩ (.int .i64 pc)).setCell ⟨w.heap.size + 1 + 1, 2, none⟩ (.bool pb) = WW at *
    have bw := BW.cell
    refine bodyPost_ret (v := .tuple #[.agg #[.string P, .int .i64 pc, .bool pb], .int .i64 cc]) (by simp [results, Tryz.results17, go_sem, bw]) rfl ⟨rfl, KF⟩
  · have K0 := Lib.hid ((((Kept.refl w).alloc (.cells #[.int .i64 7, .int .i64 n] 41)).alloc (.cells #[.slice AE ne ce, .slice AT nt ct, .slice AI ni ci, .slice AD nd cd, .slice AM nmm cm] 26)).alloc (.cells #[.string ⟨#[]⟩, .int .i64 0, .bool false] 50))
    go_enter Tryz.func17, Tryz.ntmps17
    go_wp2_with (go_at_call 25; refine (HH.out _ K0.out).mono ?_; rintro e w5 ⟨rfl, k5⟩; obtain ⟨B1, B2, C3⟩ := k5.blk3; have c3c := C3.cell; have c3l := C3.lt; have c3f := C3.frozen)
    have KX := K0.out.trans k5
    have BW : Blk (((w5.setCell ⟨w.heap.size + 1 + 1, 0, none⟩ (.string P)).setCell ⟨w.heap.size + 1 + 1, 1, none⟩ (.int .i64 pc)).setCell ⟨w.heap.size + 1 + 1, 2, none⟩ (.bool pb)) (w.heap.size + 1 + 1) 50 #[.string P, .int .i64 pc, .bool pb] := ((C3.set_ 0 (.string P)).set_ 1 (.int .i64 pc)).set_ 2 (.bool pb)
    have KF : Kept w (((w5.setCell ⟨w.heap.size + 1 + 1, 0, none⟩ (.string P)).setCell ⟨w.heap.size + 1 + 1, 1, none⟩ (.int .i64 pc)).setCell ⟨w.heap.size + 1 + 1, 2, none⟩ (.bool pb)) := by
      repeat refine Kept.setCell ?_ (by simp only; omega) _
      exact KX
    generalize ((w5.setCell ⟨w.heap.size + 1 + 1, 0, none⟩ (.string P)).setCell ⟨w.heap.size + 1 + 1, 1, none⟩ (.int .i64 pc)).setCell ⟨w.heap.size + 1 + 1, 2, none⟩ (.bool pb) = WW at *
    have bw := BW.cell
    refine bodyPost_ret (v := .tuple #[.agg #[.string P, .int .i64 pc, .bool pb], .int .i64 cc]) (by simp [results, Tryz.results17, go_sem, bw]) rfl ⟨rfl, KF⟩
  · have K0 := Lib.hid ((((Kept.refl w).alloc (.cells #[.int .i64 8, .int .i64 n] 41)).alloc (.cells #[.slice AE ne ce, .slice AT nt ct, .slice AI ni ci, .slice AD nd cd, .slice AM nmm cm] 26)).alloc (.cells #[.string ⟨#[]⟩, .int .i64 0, .bool false] 50))
    go_enter Tryz.func17, Tryz.ntmps17
    go_wp2_with (go_at_call 25; refine (HH.out _ K0.out).mono ?_; rintro e w5 ⟨rfl, k5⟩; obtain ⟨B1, B2, C3⟩ := k5.blk3; have c3c := C3.cell; have c3l := C3.lt; have c3f := C3.frozen)
    have KX := K0.out.trans k5
    have BW : Blk (((w5.setCell ⟨w.heap.size + 1 + 1, 0, none⟩ (.string P)).setCell ⟨w.heap.size + 1 + 1, 1, none⟩ (.int .i64 pc)).setCell ⟨w.heap.size + 1 + 1, 2, none⟩ (.bool pb)) (w.heap.size + 1 + 1) 50 #[.string P, .int .i64 pc, .bool pb] := ((C3.set_ 0 (.string P)).set_ 1 (.int .i64 pc)).set_ 2 (.bool pb)
    have KF : Kept w (((w5.setCell ⟨w.heap.size + 1 + 1, 0, none⟩ (.string P)).setCell ⟨w.heap.size + 1 + 1, 1, none⟩ (.int .i64 pc)).setCell ⟨w.heap.size + 1 + 1, 2, none⟩ (.bool pb)) := by
      repeat refine Kept.setCell ?_ (by simp only; omega) _
      exact KX
    generalize ((w5.setCell ⟨w.heap.size + 1 + 1, 0, none⟩ (.string P)).setCell ⟨w.heap.size + 1 + 1, 1, none⟩ (.int .i64 pc)).setCell ⟨w.heap.size + 1 + 1, 2, none⟩ (.bool pb) = WW at *
    have bw := BW.cell
    refine bodyPost_ret (v := .tuple #[.agg #[.string P, .int .i64 pc, .bool pb], .int .i64 cc]) (by simp [results, Tryz.results17, go_sem, bw]) rfl ⟨rfl, KF⟩
  · have K0 := Lib.hid ((((Kept.refl w).alloc (.cells #[.int .i64 36, .int .i64 n] 41)).alloc (.cells #[.slice AE ne ce, .slice AT nt ct, .slice AI ni ci, .slice AD nd cd, .slice AM nmm cm] 26)).alloc (.cells #[.string ⟨#[]⟩, .int .i64 0, .bool false] 50))
    go_enter Tryz.func17, Tryz.ntmps17
    go_wp2_with (go_at_call 25; refine (HH.out _ K0.out).mono ?_; rintro e w5 ⟨rfl, k5⟩; obtain ⟨B1, B2, C3⟩ := k5.blk3; have c3c := C3.cell; have c3l := C3.lt; have c3f := C3.frozen)
    have KX := K0.out.trans k5
    have BW : Blk (((w5.setCell ⟨w.heap.size + 1 + 1, 0, none⟩ (.string P)).setCell ⟨w.heap.size + 1 + 1, 1, none⟩ (.int .i64 pc)).setCell ⟨w.heap.size + 1 + 1, 2, none⟩ (.bool pb)) (w.heap.size + 1 + 1) 50 #[.string P, .int .i64 pc, .bool pb] := ((C3.set_ 0 (.string P)).set_ 1 (.int .i64 pc)).set_ 2 (.bool pb)
    have KF : Kept w (((w5.setCell ⟨w.heap.size + 1 + 1, 0, none⟩ (.string P)).setCell ⟨w.heap.size + 1 + 1, 1, none⟩ (.int .i64 pc)).setCell ⟨w.heap.size + 1 + 1, 2, none⟩ (.bool pb)) := by
      repeat refine Kept.setCell ?_ (by simp only; omega) _
      exact KX
    generalize ((w5.setCell ⟨w.heap.size + 1 + 1, 0, none⟩ (.string P)).setCell ⟨w.heap.size + 1 + 1, 1, none⟩ (.int .i64 pc)).setCell ⟨w.heap.size + 1 + 1, 2, none⟩ (.bool pb) = WW at *
    have bw := BW.cell
    refine bodyPost_ret (v := .tuple #[.agg #[.string P, .int .i64 pc, .bool pb], .int .i64 cc]) (by simp [results, Tryz.results17, go_sem, bw]) rfl ⟨rfl, KF⟩
  · have K0 := Lib.hid ((((Kept.refl w).alloc (.cells #[.int .i64 37, .int .i64 n] 41)).alloc (.cells #[.slice AE ne ce, .slice AT nt ct, .slice AI ni ci, .slice AD nd cd, .slice AM nmm cm] 26)).alloc (.cells #[.string ⟨#[]⟩, .int .i64 0, .bool false] 50))
    go_enter Tryz.func17, Tryz.ntmps17
    go_wp2_with (go_at_call 25; refine (HH.out _ K0.out).mono ?_; rintro e w5 ⟨rfl, k5⟩; obtain ⟨B1, B2, C3⟩ := k5.blk3; have c3c := C3.cell; have c3l := C3.lt; have c3f := C3.frozen)
    have KX := K0.out.trans k5
    have BW : Blk (((w5.setCell ⟨w.heap.size + 1 + 1, 0, none⟩ (.string P)).setCell ⟨w.heap.size + 1 + 1, 1, none⟩ (.int .i64 pc)).setCell ⟨w.heap.size + 1 + 1, 2, none⟩ (.bool pb)) (w.heap.size + 1 + 1) 50 #[.string P, .int .i64 pc, .bool pb] := ((C3.set_ 0 (.string P)).set_ 1 (.int .i64 pc)).set_ 2 (.bool pb)
    have KF : Kept w (((w5.setCell ⟨w.heap.size + 1 + 1, 0, none⟩ (.string P)).setCell ⟨w.heap.size + 1 + 1, 1, none⟩ (.int .i64 pc)).setCell ⟨w.heap.size + 1 + 1, 2, none⟩ (.bool pb)) := by
      repeat refine Kept.setCell ?_ (by simp only; omega) _
      exact KX
    generalize ((w5.setCell ⟨w.heap.size + 1 + 1, 0, none⟩ (.string P)).setCell ⟨w.heap.size + 1 + 1, 1, none⟩ (.int .i64 pc)).setCell ⟨w.heap.size + 1 + 1, 2, none⟩ (.bool pb) = WW at *
    have bw := BW.cell
    refine bodyPost_ret (v := .tuple #[.agg #[.string P, .int .i64 pc, .bool pb], .int .i64 cc]) (by simp [results, Tryz.results17, go_sem, bw]) rfl ⟨rfl, KF⟩
  · have K0 := Lib.hid ((((Kept.refl w).alloc (.cells #[.int .i64 38, .int .i64 n] 41)).alloc (.cells #[.slice AE ne ce, .slice AT nt ct, .slice AI ni ci, .slice AD nd cd, .slice AM nmm cm] 26)).alloc (.cells #[.string ⟨#[]⟩, .int .i64 0, .bool false] 50))
    go_enter Tryz.func17, Tryz.ntmps17
    go_wp2_with (go_at_call 25; refine (HH.out _ K0.out).mono ?_; rintro e w5 ⟨rfl, k5⟩; obtain ⟨B1, B2, C3⟩ := k5.blk3; have c3c := C3.cell; have c3l := C3.lt; have c3f := C3.frozen)
    have KX := K0.out.trans k5
    have BW : Blk (((w5.setCell ⟨w.heap.size + 1 + 1, 0, none⟩ (.string P)).setCell ⟨w.heap.size + 1 + 1, 1, none⟩ (.int .i64 pc)).setCell ⟨w.heap.size + 1 + 1, 2, none⟩ (.bool pb)) (w.heap.size + 1 + 1) 50 #[.string P, .int .i64 pc, .bool pb] := ((C3.set_ 0 (.string P)).set_ 1 (.int .i64 pc)).set_ 2 (.bool pb)
    have KF : Kept w (((w5.setCell ⟨w.heap.size + 1 + 1, 0, none⟩ (.string P)).setCell ⟨w.heap.size + 1 + 1, 1, none⟩ (.int .i64 pc)).setCell ⟨w.heap.size + 1 + 1, 2, none⟩ (.bool pb)) := by
      repeat refine Kept.setCell ?_ (by simp only; omega) _
      exact KX
    generalize ((w5.setCell ⟨w.heap.size + 1 + 1, 0, none⟩ (.string P)).setCell ⟨w.heap.size + 1 + 1, 1, none⟩ (.int .i64 pc)).setCell ⟨w.heap.size + 1 + 1, 2, none⟩ (.bool pb) = WW at *
    have bw := BW.cell
    refine bodyPost_ret (v := .tuple #[.agg #[.string P, .int .i64 pc, .bool pb], .int .i64 cc]) (by simp [results, Tryz.results17, go_sem, bw]) rfl ⟨rfl, KF⟩
  · have K0 := Lib.hid ((((Kept.refl w).alloc (.cells #[.int .i64 39, .int .i64 n] 41)).alloc (.cells #[.slice AE ne ce, .slice AT nt ct, .slice AI ni ci, .slice AD nd cd, .slice AM nmm cm] 26)).alloc (.cells #[.string ⟨#[]⟩, .int .i64 0, .bool false] 50))
    go_enter Tryz.func17, Tryz.ntmps17
    go_wp2_with (go_at_call 25; refine (HH.out _ K0.out).mono ?_; rintro e w5 ⟨rfl, k5⟩; obtain ⟨B1, B2, C3⟩ := k5.blk3; have c3c := C3.cell; have c3l := C3.lt; have c3f := C3.frozen)
    have KX := K0.out.trans k5
    have BW : Blk (((w5.setCell ⟨w.heap.size + 1 + 1, 0, none⟩ (.string P)).setCell ⟨w.heap.size + 1 + 1, 1, none⟩ (.int .i64 pc)).setCell ⟨w.heap.size + 1 + 1, 2, none⟩ (.bool pb)) (w.heap.size + 1 + 1) 50 #[.string P, .int .i64 pc, .bool pb] := ((C3.set_ 0 (.string P)).set_ 1 (.int .i64 pc)).set_ 2 (.bool pb)
    have KF : Kept w (((w5.setCell ⟨w.heap.size + 1 + 1, 0, none⟩ (.string P)).setCell ⟨w.heap.size + 1 + 1, 1, none⟩ (.int .i64 pc)).setCell ⟨w.heap.size + 1 + 1, 2, none⟩ (.bool pb)) := by
      repeat refine Kept.setCell ?_ (by simp only; omega) _
      exact KX
    generalize ((w5.setCell ⟨w.heap.size + 1 + 1, 0, none⟩ (.string P)).setCell ⟨w.heap.size + 1 + 1, 1, none⟩ (.int .i64 pc)).setCell ⟨w.heap.size + 1 + 1, 2, none⟩ (.bool pb) = WW at *
    have bw := BW.cell
    refine bodyPost_ret (v := .tuple #[.agg #[.string P, .int .i64 pc, .bool pb], .int .i64 cc]) (by simp [results, Tryz.results17, go_sem, bw]) rfl ⟨rfl, KF⟩
set_option maxRecDepth 100000 in
set_option maxHeartbeats 16000000 in
theorem rend_today (A0 : Option Addr) (n0 c0 : Nat) : Calls Tryz.prog 17 #[.agg #[.int .i64 9, .int .i64 n], .slice A0 n0 c0, .agg #[.slice AE ne ce, .slice AT nt ct, .slice AI ni ci, .slice AD nd cd, .slice AM nmm cm]] w fun e w' => e = .returned (.tuple #[.agg #[.string ⟨#[116, 111, 100, 97, 121]⟩, .int .i64 7, .bool false], .int .i64 0]) ∧ Kept w w' := by
  have K0 := Lib.hid ((((Kept.refl w).alloc (.cells #[.int .i64 9, .int .i64 n] 41)).alloc (.cells #[.slice AE ne ce, .slice AT nt ct, .slice AI ni ci, .slice AD nd cd, .slice AM nmm cm] 26)).alloc (.cells #[.string ⟨#[]⟩, .int .i64 0, .bool false] 50))
  go_enter Tryz.func17, Tryz.ntmps17
  go_wp2_with (go_at_call 27; refine (atom_any _ _).mono ?_; unfold pcV atomP; rintro e w5 ⟨rfl, k5⟩; obtain ⟨B1, B2, C3⟩ := (k5 : Kept (((w.alloc (.cells #[.int .i64 9, .int .i64 n] 41)).alloc (.cells #[.slice AE ne ce, .slice AT nt ct, .slice AI ni ci, .slice AD nd cd, .slice AM nmm cm] 26)).alloc (.cells #[.string ⟨#[]⟩, .int .i64 0, .bool false] 50)) w5).blk3; have c3c := C3.cell; have c3l := C3.lt; have c3f := C3.frozen)
  have KX := K0.out.trans k5
  generalize (⟨#[116, 111, 100, 97, 121]⟩ : ByteArray) = TT at *
  have BW : Blk (((w5.setCell ⟨w.heap.size + 1 + 1, 0, none⟩ (.string TT)).setCell ⟨w.heap.size + 1 + 1, 1, none⟩ (.int .i64 7)).setCell ⟨w.heap.size + 1 + 1, 2, none⟩ (.bool false)) (w.heap.size + 1 + 1) 50 #[.string TT, .int .i64 7, .bool false] := ((C3.set_ 0 (.string TT)).set_ 1 (.int .i64 7)).set_ 2 (.bool false)
  have KF : Kept w (((w5.setCell ⟨w.heap.size + 1 + 1, 0, none⟩ (.string TT)).setCell ⟨w.heap.size + 1 + 1, 1, none⟩ (.int .i64 7)).setCell ⟨w.heap.size + 1 + 1, 2, none⟩ (.bool false)) := by
    repeat refine Kept.setCell ?_ (by simp only; omega) _
    exact KX
  generalize ((w5.setCell ⟨w.heap.size + 1 + 1, 0, none⟩ (.string TT)).setCell ⟨w.heap.size + 1 + 1, 1, none⟩ (.int .i64 7)).setCell ⟨w.heap.size + 1 + 1, 2, none⟩ (.bool false) = WW at *
  have bw := BW.cell
  refine bodyPost_ret (v := .tuple #[.agg #[.string TT, .int .i64 7, .bool false], .int .i64 0]) (by simp [results, Tryz.results17, go_sem, bw]) rfl ⟨rfl, KF⟩
set_option maxRecDepth 100000 in
set_option maxHeartbeats 16000000 in
theorem rend_count (A0 : Option Addr) (n0 c0 : Nat) : Calls Tryz.prog 17 #[.agg #[.int .i64 35, .int .i64 n], .slice A0 n0 c0, .agg #[.slice AE ne ce, .slice AT nt ct, .slice AI ni ci, .slice AD nd cd, .slice AM nmm cm]] w fun e w' => e = .returned (.tuple #[.agg #[.string ⟨#[99, 111, 117, 110, 116, 40, 41]⟩, .int .i64 7, .bool false], .int .i64 0]) ∧ Kept w w' := by
  have K0 := Lib.hid ((((Kept.refl w).alloc (.cells #[.int .i64 35, .int .i64 n] 41)).alloc (.cells #[.slice AE ne ce, .slice AT nt ct, .slice AI ni ci, .slice AD nd cd, .slice AM nmm cm] 26)).alloc (.cells #[.string ⟨#[]⟩, .int .i64 0, .bool false] 50))
  go_enter Tryz.func17, Tryz.ntmps17
  go_wp2_with (go_at_call 27; refine (atom_any _ _).mono ?_; unfold pcV atomP; rintro e w5 ⟨rfl, k5⟩; obtain ⟨B1, B2, C3⟩ := (k5 : Kept (((w.alloc (.cells #[.int .i64 35, .int .i64 n] 41)).alloc (.cells #[.slice AE ne ce, .slice AT nt ct, .slice AI ni ci, .slice AD nd cd, .slice AM nmm cm] 26)).alloc (.cells #[.string ⟨#[]⟩, .int .i64 0, .bool false] 50)) w5).blk3; have c3c := C3.cell; have c3l := C3.lt; have c3f := C3.frozen)
  have KX := K0.out.trans k5
  generalize (⟨#[99, 111, 117, 110, 116, 40, 41]⟩ : ByteArray) = TT at *
  have BW : Blk (((w5.setCell ⟨w.heap.size + 1 + 1, 0, none⟩ (.string TT)).setCell ⟨w.heap.size + 1 + 1, 1, none⟩ (.int .i64 7)).setCell ⟨w.heap.size + 1 + 1, 2, none⟩ (.bool false)) (w.heap.size + 1 + 1) 50 #[.string TT, .int .i64 7, .bool false] := ((C3.set_ 0 (.string TT)).set_ 1 (.int .i64 7)).set_ 2 (.bool false)
  have KF : Kept w (((w5.setCell ⟨w.heap.size + 1 + 1, 0, none⟩ (.string TT)).setCell ⟨w.heap.size + 1 + 1, 1, none⟩ (.int .i64 7)).setCell ⟨w.heap.size + 1 + 1, 2, none⟩ (.bool false)) := by
    repeat refine Kept.setCell ?_ (by simp only; omega) _
    exact KX
  generalize ((w5.setCell ⟨w.heap.size + 1 + 1, 0, none⟩ (.string TT)).setCell ⟨w.heap.size + 1 + 1, 1, none⟩ (.int .i64 7)).setCell ⟨w.heap.size + 1 + 1, 2, none⟩ (.bool false) = WW at *
  have bw := BW.cell
  refine bodyPost_ret (v := .tuple #[.agg #[.string TT, .int .i64 7, .bool false], .int .i64 0]) (by simp [results, Tryz.results17, go_sem, bw]) rfl ⟨rfl, KF⟩
end
end Go.Proofs.YtdnjfpmngnkcfaaGreatDoor
/- What render of package exprtext computes of nodes with operands. (Printed by wip/genetrendb.py.) -/
namespace Go.Proofs.YtdnjfpmngnkcfaaGreatDoor
open Go.RowKit

section
variable (n : Int) (AE AT AI AD AM : Option Addr) (ne ce nt ct ni ci nd cd nmm cm : Nat) (w : World)
set_option maxRecDepth 100000 in
set_option maxHeartbeats 16000000 in
theorem rend_arg1 (o : Int) (ho : o = 31 ∨ o = 32) (P0 : ByteArray) (b off cap : Nat) (hb : b < w.heap.size)
     (x00 : w.cell? ⟨b, off, none⟩ = some (.string P0)) (hp0 : P0.size ≤ 18014398509481984) :
    Calls Tryz.prog 17 #[.agg #[.int .i64 o, .int .i64 n], .slice (some ⟨b, off, none⟩) 1 cap, .agg #[.slice AE ne ce, .slice AT nt ct, .slice AI ni ci, .slice AD nd cd, .slice AM nmm cm]] w fun e w' => e = .returned (.tuple #[.agg #[.string (callW o ++ ⟨#[40]⟩ ++ P0 ++ ⟨#[41]⟩), .int .i64 7, .bool false], .int .i64 0]) ∧ Kept w w' := by
  have HCW := Lib.hid (fun w1 => callWord_any o w1)
  have hcz := callW_size o
  generalize callW o = C at *
  have z0 : (C : ByteArray).size = C.size := by rfl
  have q0 : ¬ (9223372036854775807 < (C : ByteArray).size + (⟨#[40]⟩ : ByteArray).size) := by rw [z0]; show ¬ (_ < C.size + 1); omega
  have z1 : (C ++ ⟨#[40]⟩ : ByteArray).size = C.size + 1 := by rw [ByteArray.size_append, z0]; rfl
  have q1 : ¬ (9223372036854775807 < (C ++ ⟨#[40]⟩ : ByteArray).size + (P0 : ByteArray).size) := by rw [z1]; show ¬ (_ < C.size + 1 + P0.size); omega
  have z2 : (C ++ ⟨#[40]⟩ ++ P0 : ByteArray).size = C.size + 1 + P0.size := by rw [ByteArray.size_append, z1]
  have q2 : ¬ (9223372036854775807 < (C ++ ⟨#[40]⟩ ++ P0 : ByteArray).size + (⟨#[41]⟩ : ByteArray).size) := by rw [z2]; show ¬ (_ < C.size + 1 + P0.size + 1); omega
  clear z2 z1 z0
  have HAT := Lib.hid (fun w1 => atom_any (C ++ ⟨#[40]⟩ ++ P0 ++ ⟨#[41]⟩) w1)
  unfold pcV atomP at HAT
  rcases ho with rfl | rfl
  · have K0 := Lib.hid ((((Kept.refl w).alloc (.cells #[.int .i64 31, .int .i64 n] 41)).alloc (.cells #[.slice AE ne ce, .slice AT nt ct, .slice AI ni ci, .slice AD nd cd, .slice AM nmm cm] 26)).alloc (.cells #[.string ⟨#[]⟩, .int .i64 0, .bool false] 50))
    go_enter Tryz.func17, Tryz.ntmps17
    go_wp2_with fail
    obtain ⟨B1, B2, B3⟩ := (Kept.refl (((w.alloc (.cells #[.int .i64 31, .int .i64 n] 41)).alloc (.cells #[.slice AE ne ce, .slice AT nt ct, .slice AI ni ci, .slice AD nd cd, .slice AM nmm cm] 26)).alloc (.cells #[.string ⟨#[]⟩, .int .i64 0, .bool false] 50))).blk3
    have KK := K0.out
    generalize ((w.alloc (.cells #[.int .i64 31, .int .i64 n] 41)).alloc (.cells #[.slice AE ne ce, .slice AT nt ct, .slice AI ni ci, .slice AD nd cd, .slice AM nmm cm] 26)).alloc (.cells #[.string ⟨#[]⟩, .int .i64 0, .bool false] 50) = W at *
    have a0 := KW.cell B1.lt (B1.cell 0)
    have hbW := Nat.lt_of_lt_of_le hb KK.size
    have y00 := KW.cell hbW (KK.cell (p := ⟨b, _, none⟩) hb x00)
    refine wp_region_kept_tail 11 (by kernel_rfl) (by kernel_rfl) ?_
    simp only [List.take_succ_cons, List.take_zero, List.drop_succ_cons, List.drop_zero]
    repeat (go_big_quiet_step (first | (go_at_call 28; exact KW.pure (HCW.out _)) | (go_at_call 27; exact KW.call (HAT.out _))))
    refine wpQuiet_nil ?_
    rintro w5 ⟨⟨wx, hx2⟩, hh⟩
    obtain rfl : w5 = wx := hh
    have C3 := B3.kept hx2
    have c3c := C3.cell
    have c3l := C3.lt
    have c3f := C3.frozen
    have KX := KK.trans hx2
    go_wp2_with fail
    generalize (C ++ ⟨#[40]⟩ ++ P0 ++ ⟨#[41]⟩ : ByteArray) = TT at *
    have BW : Blk (((w5.setCell ⟨w.heap.size + 1 + 1, 0, none⟩ (.string TT)).setCell ⟨w.heap.size + 1 + 1, 1, none⟩ (.int .i64 7)).setCell ⟨w.heap.size + 1 + 1, 2, none⟩ (.bool false)) (w.heap.size + 1 + 1) 50 #[.string TT, .int .i64 7, .bool false] := ((C3.set_ 0 (.string TT)).set_ 1 (.int .i64 7)).set_ 2 (.bool false)
    have KF : Kept w (((w5.setCell ⟨w.heap.size + 1 + 1, 0, none⟩ (.string TT)).setCell ⟨w.heap.size + 1 + 1, 1, none⟩ (.int .i64 7)).setCell ⟨w.heap.size + 1 + 1, 2, none⟩ (.bool false)) := by
      repeat refine Kept.setCell ?_ (by simp only; omega) _
      exact KX
    generalize ((w5.setCell ⟨w.heap.size + 1 + 1, 0, none⟩ (.string TT)).setCell ⟨w.heap.size + 1 + 1, 1, none⟩ (.int .i64 7)).setCell ⟨w.heap.size + 1 + 1, 2, none⟩ (.bool false) = WW at *
    have bw := BW.cell
    refine bodyPost_ret (v := .tuple #[.agg #[.string TT, .int .i64 7, .bool false], .int .i64 0]) (by simp [results, Tryz.results17, go_sem, bw]) rfl ⟨rfl, KF⟩
  · have K0 := Lib.hid ((((Kept.refl w).alloc (.cells #[.int .i64 32, .int .i64 n] 41)).alloc (.cells #[.slice AE ne ce, .slice AT nt ct, .slice AI ni ci, .slice AD nd cd, .slice AM nmm cm] 26)).alloc (.cells #[.string ⟨#[]⟩, .int .i64 0, .bool false] 50))
    go_enter Tryz.func17, Tryz.ntmps17
    go_wp2_with fail
    obtain ⟨B1, B2, B3⟩ := (Kept.refl (((w.alloc (.cells #[.int .i64 32, .int .i64 n] 41)).alloc (.cells #[.slice AE ne ce, .slice AT nt ct, .slice AI ni ci, .slice AD nd cd, .slice AM nmm cm] 26)).alloc (.cells #[.string ⟨#[]⟩, .int .i64 0, .bool false] 50))).blk3
    have KK := K0.out
    generalize ((w.alloc (.cells #[.int .i64 32, .int .i64 n] 41)).alloc (.cells #[.slice AE ne ce, .slice AT nt ct, .slice AI ni ci, .slice AD nd cd, .slice AM nmm cm] 26)).alloc (.cells #[.string ⟨#[]⟩, .int .i64 0, .bool false] 50) = W at *
    have a0 := KW.cell B1.lt (B1.cell 0)
    have hbW := Nat.lt_of_lt_of_le hb KK.size
    have y00 := KW.cell hbW (KK.cell (p := ⟨b, _, none⟩) hb x00)
    refine wp_region_kept_tail 11 (by kernel_rfl) (by kernel_rfl) ?_
    simp only [List.take_succ_cons, List.take_zero, List.drop_succ_cons, List.drop_zero]
    repeat (go_big_quiet_step (first | (go_at_call 28; exact KW.pure (HCW.out _)) | (go_at_call 27; exact KW.call (HAT.out _))))
    refine wpQuiet_nil ?_
    rintro w5 ⟨⟨wx, hx2⟩, hh⟩
    obtain rfl : w5 = wx := hh
    have C3 := B3.kept hx2
    have c3c := C3.cell
    have c3l := C3.lt
    have c3f := C3.frozen
    have KX := KK.trans hx2
    go_wp2_with fail
    generalize (C ++ ⟨#[40]⟩ ++ P0 ++ ⟨#[41]⟩ : ByteArray) = TT at *
    have BW : Blk (((w5.setCell ⟨w.heap.size + 1 + 1, 0, none⟩ (.string TT)).setCell ⟨w.heap.size + 1 + 1, 1, none⟩ (.int .i64 7)).setCell ⟨w.heap.size + 1 + 1, 2, none⟩ (.bool false)) (w.heap.size + 1 + 1) 50 #[.string TT, .int .i64 7, .bool false] := ((C3.set_ 0 (.string TT)).set_ 1 (.int .i64 7)).set_ 2 (.bool false)
    have KF : Kept w (((w5.setCell ⟨w.heap.size + 1 + 1, 0, none⟩ (.string TT)).setCell ⟨w.heap.size + 1 + 1, 1, none⟩ (.int .i64 7)).setCell ⟨w.heap.size + 1 + 1, 2, none⟩ (.bool false)) := by
      repeat refine Kept.setCell ?_ (by simp only; omega) _
      exact KX
    generalize ((w5.setCell ⟨w.heap.size + 1 + 1, 0, none⟩ (.string TT)).setCell ⟨w.heap.size + 1 + 1, 1, none⟩ (.int .i64 7)).setCell ⟨w.heap.size + 1 + 1, 2, none⟩ (.bool false) = WW at *
    have bw := BW.cell
    refine bodyPost_ret (v := .tuple #[.agg #[.string TT, .int .i64 7, .bool false], .int .i64 0]) (by simp [results, Tryz.results17, go_sem, bw]) rfl ⟨rfl, KF⟩
set_option maxRecDepth 100000 in
set_option maxHeartbeats 16000000 in
theorem rend_arg2 (o : Int) (ho : o = 17 ∨ o = 18 ∨ o = 27 ∨ o = 28 ∨ o = 29 ∨ o = 30) (P0 : ByteArray) (P1 : ByteArray) (b off cap : Nat) (hb : b < w.heap.size)
     (x00 : w.cell? ⟨b, off, none⟩ = some (.string P0)) (hp0 : P0.size ≤ 18014398509481984) (x10 : w.cell? ⟨b, off + 3, none⟩ = some (.string P1)) (hp1 : P1.size ≤ 18014398509481984) :
    Calls Tryz.prog 17 #[.agg #[.int .i64 o, .int .i64 n], .slice (some ⟨b, off, none⟩) 2 cap, .agg #[.slice AE ne ce, .slice AT nt ct, .slice AI ni ci, .slice AD nd cd, .slice AM nmm cm]] w fun e w' => e = .returned (.tuple #[.agg #[.string (callW o ++ ⟨#[40]⟩ ++ P0 ++ ⟨#[44, 32]⟩ ++ P1 ++ ⟨#[41]⟩), .int .i64 7, .bool false], .int .i64 0]) ∧ Kept w w' := by
  have HCW := Lib.hid (fun w1 => callWord_any o w1)
  have hcz := callW_size o
  generalize callW o = C at *
  have z0 : (C : ByteArray).size = C.size := by rfl
  have q0 : ¬ (9223372036854775807 < (C : ByteArray).size + (⟨#[40]⟩ : ByteArray).size) := by rw [z0]; show ¬ (_ < C.size + 1); omega
  have z1 : (C ++ ⟨#[40]⟩ : ByteArray).size = C.size + 1 := by rw [ByteArray.size_append, z0]; rfl
  have q1 : ¬ (9223372036854775807 < (C ++ ⟨#[40]⟩ : ByteArray).size + (P0 : ByteArray).size) := by rw [z1]; show ¬ (_ < C.size + 1 + P0.size); omega
  have z2 : (C ++ ⟨#[40]⟩ ++ P0 : ByteArray).size = C.size + 1 + P0.size := by rw [ByteArray.size_append, z1]
  have q2 : ¬ (9223372036854775807 < (C ++ ⟨#[40]⟩ ++ P0 : ByteArray).size + (⟨#[44, 32]⟩ : ByteArray).size) := by rw [z2]; show ¬ (_ < C.size + 1 + P0.size + 2); omega
  have z3 : (C ++ ⟨#[40]⟩ ++ P0 ++ ⟨#[44, 32]⟩ : ByteArray).size = C.size + 1 + P0.size + 2 := by rw [ByteArray.size_append, z2]; rfl
  have q3 : ¬ (9223372036854775807 < (C ++ ⟨#[40]⟩ ++ P0 ++ ⟨#[44, 32]⟩ : ByteArray).size + (P1 : ByteArray).size) := by rw [z3]; show ¬ (_ < C.size + 1 + P0.size + 2 + P1.size); omega
  have z4 : (C ++ ⟨#[40]⟩ ++ P0 ++ ⟨#[44, 32]⟩ ++ P1 : ByteArray).size = C.size + 1 + P0.size + 2 + P1.size := by rw [ByteArray.size_append, z3]
  have q4 : ¬ (9223372036854775807 < (C ++ ⟨#[40]⟩ ++ P0 ++ ⟨#[44, 32]⟩ ++ P1 : ByteArray).size + (⟨#[41]⟩ : ByteArray).size) := by rw [z4]; show ¬ (_ < C.size + 1 + P0.size + 2 + P1.size + 1); omega
  clear z4 z3 z2 z1 z0
  have HAT := Lib.hid (fun w1 => atom_any (C ++ ⟨#[40]⟩ ++ P0 ++ ⟨#[44, 32]⟩ ++ P1 ++ ⟨#[41]⟩) w1)
  unfold pcV atomP at HAT
  rcases ho with rfl | rfl | rfl | rfl | rfl | rfl
  · have K0 := Lib.hid ((((Kept.refl w).alloc (.cells #[.int .i64 17, .int .i64 n] 41)).alloc (.cells #[.slice AE ne ce, .slice AT nt ct, .slice AI ni ci, .slice AD nd cd, .slice AM nmm cm] 26)).alloc (.cells #[.string ⟨#[]⟩, .int .i64 0, .bool false] 50))
    go_enter Tryz.func17, Tryz.ntmps17
    go_wp2_with fail
    obtain ⟨B1, B2, B3⟩ := (Kept.refl (((w.alloc (.cells #[.int .i64 17, .int .i64 n] 41)).alloc (.cells #[.slice AE ne ce, .slice AT nt ct, .slice AI ni ci, .slice AD nd cd, .slice AM nmm cm] 26)).alloc (.cells #[.string ⟨#[]⟩, .int .i64 0, .bool false] 50))).blk3
    have KK := K0.out
    generalize ((w.alloc (.cells #[.int .i64 17, .int .i64 n] 41)).alloc (.cells #[.slice AE ne ce, .slice AT nt ct, .slice AI ni ci, .slice AD nd cd, .slice AM nmm cm] 26)).alloc (.cells #[.string ⟨#[]⟩, .int .i64 0, .bool false] 50) = W at *
    have a0 := KW.cell B1.lt (B1.cell 0)
    have hbW := Nat.lt_of_lt_of_le hb KK.size
    have y00 := KW.cell hbW (KK.cell (p := ⟨b, _, none⟩) hb x00)
    have y10 := KW.cell hbW (KK.cell (p := ⟨b, _, none⟩) hb x10)
    refine wp_region_kept_tail 17 (by kernel_rfl) (by kernel_rfl) ?_
    simp only [List.take_succ_cons, List.take_zero, List.drop_succ_cons, List.drop_zero]
    repeat (go_big_quiet_step (first | (go_at_call 28; exact KW.pure (HCW.out _)) | (go_at_call 27; exact KW.call (HAT.out _))))
    refine wpQuiet_nil ?_
    rintro w5 ⟨⟨wx, hx2⟩, hh⟩
    obtain rfl : w5 = wx := hh
    have C3 := B3.kept hx2
    have c3c := C3.cell
    have c3l := C3.lt
    have c3f := C3.frozen
    have KX := KK.trans hx2
    go_wp2_with fail
    generalize (C ++ ⟨#[40]⟩ ++ P0 ++ ⟨#[44, 32]⟩ ++ P1 ++ ⟨#[41]⟩ : ByteArray) = TT at *
    have BW : Blk (((w5.setCell ⟨w.heap.size + 1 + 1, 0, none⟩ (.string TT)).setCell ⟨w.heap.size + 1 + 1, 1, none⟩ (.int .i64 7)).setCell ⟨w.heap.size + 1 + 1, 2, none⟩ (.bool false)) (w.heap.size + 1 + 1) 50 #[.string TT, .int .i64 7, .bool false] := ((C3.set_ 0 (.string TT)).set_ 1 (.int .i64 7)).set_ 2 (.bool false)
    have KF : Kept w (((w5.setCell ⟨w.heap.size + 1 + 1, 0, none⟩ (.string TT)).setCell ⟨w.heap.size + 1 + 1, 1, none⟩ (.int .i64 7)).setCell ⟨w.heap.size + 1 + 1, 2, none⟩ (.bool false)) := by
      repeat refine Kept.setCell ?_ (by simp only; omega) _
      exact KX
    generalize ((w5.setCell ⟨w.heap.size + 1 + 1, 0, none⟩ (.string TT)).setCell ⟨w.heap.size + 1 + 1, 1, none⟩ (.int .i64 7)).setCell ⟨w.heap.size + 1 + 1, 2, none⟩ (.bool false) = WW at *
    have bw := BW.cell
    refine bodyPost_ret (v := .tuple #[.agg #[.string TT, .int .i64 7, .bool false], .int .i64 0]) (by simp [results, Tryz.results17, go_sem, bw]) rfl ⟨rfl, KF⟩
  · have K0 := Lib.hid ((((Kept.refl w).alloc (.cells #[.int .i64 18, .int .i64 n] 41)).alloc (.cells #[.slice AE ne ce, .slice AT nt ct, .slice AI ni ci, .slice AD nd cd, .slice AM nmm cm] 26)).alloc (.cells #[.string ⟨#[]⟩, .int .i64 0, .bool false] 50))
    go_enter Tryz.func17, Tryz.ntmps17
    go_wp2_with fail
    obtain ⟨B1, B2, B3⟩ := (Kept.refl (((w.alloc (.cells #[.int .i64 18, .int .i64 n] 41)).alloc (.cells #[.slice AE ne ce, .slice AT nt ct, .slice AI ni ci, .slice AD nd cd, .slice AM nmm cm] 26)).alloc (.cells #[.string ⟨#[]⟩, .int .i64 0, .bool false] 50))).blk3
    have KK := K0.out
    generalize ((w.alloc (.cells #[.int .i64 18, .int .i64 n] 41)).alloc (.cells #[.slice AE ne ce, .slice AT nt ct, .slice AI ni ci, .slice AD nd cd, .slice AM nmm cm] 26)).alloc (.cells #[.string ⟨#[]⟩, .int .i64 0, .bool false] 50) = W at *
    have a0 := KW.cell B1.lt (B1.cell 0)
    have hbW := Nat.lt_of_lt_of_le hb KK.size
    have y00 := KW.cell hbW (KK.cell (p := ⟨b, _, none⟩) hb x00)
    have y10 := KW.cell hbW (KK.cell (p := ⟨b, _, none⟩) hb x10)
    refine wp_region_kept_tail 17 (by kernel_rfl) (by kernel_rfl) ?_
    simp only [List.take_succ_cons, List.take_zero, List.drop_succ_cons, List.drop_zero]
    repeat (go_big_quiet_step (first | (go_at_call 28; exact KW.pure (HCW.out _)) | (go_at_call 27; exact KW.call (HAT.out _))))
    refine wpQuiet_nil ?_
    rintro w5 ⟨⟨wx, hx2⟩, hh⟩
    obtain rfl : w5 = wx := hh
    have C3 := B3.kept hx2
    have c3c := C3.cell
    have c3l := C3.lt
    have c3f := C3.frozen
    have KX := KK.trans hx2
    go_wp2_with fail
    generalize (C ++ ⟨#[40]⟩ ++ P0 ++ ⟨#[44, 32]⟩ ++ P1 ++ ⟨#[41]⟩ : ByteArray) = TT at *
    have BW : Blk (((w5.setCell ⟨w.heap.size + 1 + 1, 0, none⟩ (.string TT)).setCell ⟨w.heap.size + 1 + 1, 1, none⟩ (.int .i64 7)).setCell ⟨w.heap.size + 1 + 1, 2, none⟩ (.bool false)) (w.heap.size + 1 + 1) 50 #[.string TT, .int .i64 7, .bool false] := ((C3.set_ 0 (.string TT)).set_ 1 (.int .i64 7)).set_ 2 (.bool false)
    have KF : Kept w (((w5.setCell ⟨w.heap.size + 1 + 1, 0, none⟩ (.string TT)).setCell ⟨w.heap.size + 1 + 1, 1, none⟩ (.int .i64 7)).setCell ⟨w.heap.size + 1 + 1, 2, none⟩ (.bool false)) := by
      repeat refine Kept.setCell ?_ (by simp only; omega) _
      exact KX
    generalize ((w5.setCell ⟨w.heap.size + 1 + 1, 0, none⟩ (.string TT)).setCell ⟨w.heap.size + 1 + 1, 1, none⟩ (.int .i64 7)).setCell ⟨w.heap.size + 1 + 1, 2, none⟩ (.bool false) = WW at *
    have bw := BW.cell
    refine bodyPost_ret (v := .tuple #[.agg #[.string TT, .int .i64 7, .bool false], .int .i64 0]) (by simp [results, Tryz.results17, go_sem, bw]) rfl ⟨rfl, KF⟩
  · have K0 := Lib.hid ((((Kept.refl w).alloc (.cells #[.int .i64 27, .int .i64 n] 41)).alloc (.cells #[.slice AE ne ce, .slice AT nt ct, .slice AI ni ci, .slice AD nd cd, .slice AM nmm cm] 26)).alloc (.cells #[.string ⟨#[]⟩, .int .i64 0, .bool false] 50))
    go_enter Tryz.func17, Tryz.ntmps17
    go_wp2_with fail
    obtain ⟨B1, B2, B3⟩ := (Kept.refl (((w.alloc (.cells #[.int .i64 27, .int .i64 n] 41)).alloc (.cells #[.slice AE ne ce, .slice AT nt ct, .slice AI ni ci, .slice AD nd cd, .slice AM nmm cm] 26)).alloc (.cells #[.string ⟨#[]⟩, .int .i64 0, .bool false] 50))).blk3
    have KK := K0.out
    generalize ((w.alloc (.cells #[.int .i64 27, .int .i64 n] 41)).alloc (.cells #[.slice AE ne ce, .slice AT nt ct, .slice AI ni ci, .slice AD nd cd, .slice AM nmm cm] 26)).alloc (.cells #[.string ⟨#[]⟩, .int .i64 0, .bool false] 50) = W at *
    have a0 := KW.cell B1.lt (B1.cell 0)
    have hbW := Nat.lt_of_lt_of_le hb KK.size
    have y00 := KW.cell hbW (KK.cell (p := ⟨b, _, none⟩) hb x00)
    have y10 := KW.cell hbW (KK.cell (p := ⟨b, _, none⟩) hb x10)
    refine wp_region_kept_tail 17 (by kernel_rfl) (by kernel_rfl) ?_
    simp only [List.take_succ_cons, List.take_zero, List.drop_succ_cons, List.drop_zero]
    repeat (go_big_quiet_step (first | (go_at_call 28; exact KW.pure (HCW.out _)) | (go_at_call 27; exact KW.call (HAT.out _))))
    refine wpQuiet_nil ?_
    rintro w5 ⟨⟨wx, hx2⟩, hh⟩
    obtain rfl : w5 = wx := hh
    have C3 := B3.kept hx2
    have c3c := C3.cell
    have c3l := C3.lt
    have c3f := C3.frozen
    have KX := KK.trans hx2
    go_wp2_with fail
    generalize (C ++ ⟨#[40]⟩ ++ P0 ++ ⟨#[44, 32]⟩ ++ P1 ++ ⟨#[41]⟩ : ByteArray) = TT at *
    have BW : Blk (((w5.setCell ⟨w.heap.size + 1 + 1, 0, none⟩ (.string TT)).setCell ⟨w.heap.size + 1 + 1, 1, none⟩ (.int .i64 7)).setCell ⟨w.heap.size + 1 + 1, 2, none⟩ (.bool false)) (w.heap.size + 1 + 1) 50 #[.string TT, .int .i64 7, .bool false] := ((C3.set_ 0 (.string TT)).set_ 1 (.int .i64 7)).set_ 2 (.bool false)
    have KF : Kept w (((w5.setCell ⟨w.heap.size + 1 + 1, 0, none⟩ (.string TT)).setCell ⟨w.heap.size + 1 + 1, 1, none⟩ (.int .i64 7)).setCell ⟨w.heap.size + 1 + 1, 2, none⟩ (.bool false)) := by
      repeat refine Kept.setCell ?_ (by simp only; omega) _
      exact KX
    generalize ((w5.setCell ⟨w.heap.size + 1 + 1, 0, none⟩ (.string TT)).setCell ⟨w.heap.size + 1 + 1, 1, none⟩ (.int .i64 7)).setCell ⟨w.heap.size + 1 + 1, 2, none⟩ (.bool false) = WW at *
    have bw := BW.cell
    refine bodyPost_ret (v := .tuple #[.agg #[.string TT, .int .i64 7, .bool false], .int .i64 0]) (by simp [results, Tryz.results17, go_sem, bw]) rfl ⟨rfl, KF⟩
  · have K0 := Lib.hid ((((Kept.refl w).alloc (.cells #[.int .i64 28, .int .i64 n] 41)).alloc (.cells #[.slice AE ne ce, .slice AT nt ct, .slice AI ni ci, .slice AD nd cd, .slice AM nmm cm] 26)).alloc (.cells #[.string ⟨#[]⟩, .int .i64 0, .bool false] 50))
    go_enter Tryz.func17, Tryz.ntmps17
    go_wp2_with fail
    obtain ⟨B1, B2, B3⟩ := (Kept.refl (((w.alloc (.cells #[.int .i64 28, .int .i64 n] 41)).alloc (.cells #[.slice AE ne ce, .slice AT nt ct, .slice AI ni ci, .slice AD nd cd, .slice AM nmm cm] 26)).alloc (.cells #[.string ⟨#[]⟩, .int .i64 0, .bool false] 50))).blk3
    have KK := K0.out
    generalize ((w.alloc (.cells #[.int .i64 28, .int .i64 n] 41)).alloc (.cells #[.slice AE ne ce, .slice AT nt ct, .slice AI ni ci, .slice AD nd cd, .slice AM nmm cm] 26)).alloc (.cells #[.string ⟨#[]⟩, .int .i64 0, .bool false] 50) = W at *
    have a0 := KW.cell B1.lt (B1.cell 0)
    have hbW := Nat.lt_of_lt_of_le hb KK.size
    have y00 := KW.cell hbW (KK.cell (p := ⟨b, _, none⟩) hb x00)
    have y10 := KW.cell hbW (KK.cell (p := ⟨b, _, none⟩) hb x10)
    refine wp_region_kept_tail 17 (by kernel_rfl) (by kernel_rfl) ?_
    simp only [List.take_succ_cons, List.take_zero, List.drop_succ_cons, List.drop_zero]
    repeat (go_big_quiet_step (first | (go_at_call 28; exact KW.pure (HCW.out _)) | (go_at_call 27; exact KW.call (HAT.out _))))
    refine wpQuiet_nil ?_
    rintro w5 ⟨⟨wx, hx2⟩, hh⟩
    obtain rfl : w5 = wx := hh
    have C3 := B3.kept hx2
    have c3c := C3.cell
    have c3l := C3.lt
    have c3f := C3.frozen
    have KX := KK.trans hx2
    go_wp2_with fail
    generalize (C ++ ⟨#[40]⟩ ++ P0 ++ ⟨#[44, 32]⟩ ++ P1 ++ ⟨#[41]⟩ : ByteArray) = TT at *
    have BW : Blk (((w5.setCell ⟨w.heap.size + 1 + 1, 0, none⟩ (.string TT)).setCell ⟨w.heap.size + 1 + 1, 1, none⟩ (.int .i64 7)).setCell ⟨w.heap.size + 1 + 1, 2, none⟩ (.bool false)) (w.heap.size + 1 + 1) 50 #[.string TT, .int .i64 7, .bool false] := ((C3.set_ 0 (.string TT)).set_ 1 (.int .i64 7)).set_ 2 (.bool false)
    have KF : Kept w (((w5.setCell ⟨w.heap.size + 1 + 1, 0, none⟩ (.string TT)).setCell ⟨w.heap.size + 1 + 1, 1, none⟩ (.int .i64 7)).setCell ⟨w.heap.size + 1 + 1, 2, none⟩ (.bool false)) := by
      repeat refine Kept.setCell ?_ (by simp only; omega) _
      exact KX
    generalize ((w5.setCell ⟨w.heap.size + 1 + 1, 0, none⟩ (.string TT)).setCell ⟨w.heap.size + 1 + 1, 1, none⟩ (.int .i64 7)).setCell ⟨w.heap.size + 1 + 1, 2, none⟩ (.bool false) = WW at *
    have bw := BW.cell
    refine bodyPost_ret (v := .tuple #[.agg #[.string TT, .int .i64 7, .bool false], .int .i64 0]) (by simp [results, Tryz.results17, go_sem, bw]) rfl ⟨rfl, KF⟩
  · have K0 := Lib.hid ((((Kept.refl w).alloc (.cells #[.int .i64 29, .int .i64 n] 41)).alloc (.cells #[.slice AE ne ce, .slice AT nt ct, .slice AI ni ci, .slice AD nd cd, .slice AM nmm cm] 26)).alloc (.cells #[.string ⟨#[]⟩, .int .i64 0, .bool false] 50))
    go_enter Tryz.func17, Tryz.ntmps17
    go_wp2_with fail
    obtain ⟨B1, B2, B3⟩ := (Kept.refl (((w.alloc (.cells #[.int .i64 29, .int .i64 n] 41)).alloc (.cells #[.slice AE ne ce, .slice AT nt ct, .slice AI ni ci, .slice AD nd cd, .slice AM nmm cm] 26)).alloc (.cells #[.string ⟨#[]⟩, .int .i64 0, .bool false] 50))).blk3
    have KK := K0.out
    generalize ((w.alloc (.cells #[.int .i64 29, .int .i64 n] 41)).alloc (.cells #[.slice AE ne ce, .slice AT nt ct, .slice AI ni ci, .slice AD nd cd, .slice AM nmm cm] 26)).alloc (.cells #[.string ⟨#[]⟩, .int .i64 0, .bool false] 50) = W at *
    have a0 := KW.cell B1.lt (B1.cell 0)
    have hbW := Nat.lt_of_lt_of_le hb KK.size
    have y00 := KW.cell hbW (KK.cell (p := ⟨b, _, none⟩) hb x00)
    have y10 := KW.cell hbW (KK.cell (p := ⟨b, _, none⟩) hb x10)
    refine wp_region_kept_tail 17 (by kernel_rfl) (by kernel_rfl) ?_
    simp only [List.take_succ_cons, List.take_zero, List.drop_succ_cons, List.drop_zero]
    repeat (go_big_quiet_step (first | (go_at_call 28; exact KW.pure (HCW.out _)) | (go_at_call 27; exact KW.call (HAT.out _))))
    refine wpQuiet_nil ?_
    rintro w5 ⟨⟨wx, hx2⟩, hh⟩
    obtain rfl : w5 = wx := hh
    have C3 := B3.kept hx2
    have c3c := C3.cell
    have c3l := C3.lt
    have c3f := C3.frozen
    have KX := KK.trans hx2
    go_wp2_with fail
    generalize (C ++ ⟨#[40]⟩ ++ P0 ++ ⟨#[44, 32]⟩ ++ P1 ++ ⟨#[41]⟩ : ByteArray) = TT at *
    have BW : Blk (((w5.setCell ⟨w.heap.size + 1 + 1, 0, none⟩ (.string TT)).setCell ⟨w.heap.size + 1 + 1, 1, none⟩ (.int .i64 7)).setCell ⟨w.heap.size + 1 + 1, 2, none⟩ (.bool false)) (w.heap.size + 1 + 1) 50 #[.string TT, .int .i64 7, .bool false] := ((C3.set_ 0 (.string TT)).set_ 1 (.int .i64 7)).set_ 2 (.bool false)
    have KF : Kept w (((w5.setCell ⟨w.heap.size + 1 + 1, 0, none⟩ (.string TT)).setCell ⟨w.heap.size + 1 + 1, 1, none⟩ (.int .i64 7)).setCell ⟨w.heap.size + 1 + 1, 2, none⟩ (.bool false)) := by
      repeat refine Kept.setCell ?_ (by simp only; omega) _
      exact KX
    generalize ((w5.setCell ⟨w.heap.size + 1 + 1, 0, none⟩ (.string TT)).setCell ⟨w.heap.size + 1 + 1, 1, none⟩ (.int .i64 7)).setCell ⟨w.heap.size + 1 + 1, 2, none⟩ (.bool false) = WW at *
    have bw := BW.cell
    refine bodyPost_ret (v := .tuple #[.agg #[.string TT, .int .i64 7, .bool false], .int .i64 0]) (by simp [results, Tryz.results17, go_sem, bw]) rfl ⟨rfl, KF⟩
  · have K0 := Lib.hid ((((Kept.refl w).alloc (.cells #[.int .i64 30, .int .i64 n] 41)).alloc (.cells #[.slice AE ne ce, .slice AT nt ct, .slice AI ni ci, .slice AD nd cd, .slice AM nmm cm] 26)).alloc (.cells #[.string ⟨#[]⟩, .int .i64 0, .bool false] 50))
    go_enter Tryz.func17, Tryz.ntmps17
    go_wp2_with fail
    obtain ⟨B1, B2, B3⟩ := (Kept.refl (((w.alloc (.cells #[.int .i64 30, .int .i64 n] 41)).alloc (.cells #[.slice AE ne ce, .slice AT nt ct, .slice AI ni ci, .slice AD nd cd, .slice AM nmm cm] 26)).alloc (.cells #[.string ⟨#[]⟩, .int .i64 0, .bool false] 50))).blk3
    have KK := K0.out
    generalize ((w.alloc (.cells #[.int .i64 30, .int .i64 n] 41)).alloc (.cells #[.slice AE ne ce, .slice AT nt ct, .slice AI ni ci, .slice AD nd cd, .slice AM nmm cm] 26)).alloc (.cells #[.string ⟨#[]⟩, .int .i64 0, .bool false] 50) = W at *
    have a0 := KW.cell B1.lt (B1.cell 0)
    have hbW := Nat.lt_of_lt_of_le hb KK.size
    have y00 := KW.cell hbW (KK.cell (p := ⟨b, _, none⟩) hb x00)
    have y10 := KW.cell hbW (KK.cell (p := ⟨b, _, none⟩) hb x10)
    refine wp_region_kept_tail 17 (by kernel_rfl) (by kernel_rfl) ?_
    simp only [List.take_succ_cons, List.take_zero, List.drop_succ_cons, List.drop_zero]
    repeat (go_big_quiet_step (first | (go_at_call 28; exact KW.pure (HCW.out _)) | (go_at_call 27; exact KW.call (HAT.out _))))
    refine wpQuiet_nil ?_
    rintro w5 ⟨⟨wx, hx2⟩, hh⟩
    obtain rfl : w5 = wx := hh
    have C3 := B3.kept hx2
    have c3c := C3.cell
    have c3l := C3.lt
    have c3f := C3.frozen
    have KX := KK.trans hx2
    go_wp2_with fail
    generalize (C ++ ⟨#[40]⟩ ++ P0 ++ ⟨#[44, 32]⟩ ++ P1 ++ ⟨#[41]⟩ : ByteArray) = TT at *
    have BW : Blk (((w5.setCell ⟨w.heap.size + 1 + 1, 0, none⟩ (.string TT)).setCell ⟨w.heap.size + 1 + 1, 1, none⟩ (.int .i64 7)).setCell ⟨w.heap.size + 1 + 1, 2, none⟩ (.bool false)) (w.heap.size + 1 + 1) 50 #[.string TT, .int .i64 7, .bool false] := ((C3.set_ 0 (.string TT)).set_ 1 (.int .i64 7)).set_ 2 (.bool false)
    have KF : Kept w (((w5.setCell ⟨w.heap.size + 1 + 1, 0, none⟩ (.string TT)).setCell ⟨w.heap.size + 1 + 1, 1, none⟩ (.int .i64 7)).setCell ⟨w.heap.size + 1 + 1, 2, none⟩ (.bool false)) := by
      repeat refine Kept.setCell ?_ (by simp only; omega) _
      exact KX
    generalize ((w5.setCell ⟨w.heap.size + 1 + 1, 0, none⟩ (.string TT)).setCell ⟨w.heap.size + 1 + 1, 1, none⟩ (.int .i64 7)).setCell ⟨w.heap.size + 1 + 1, 2, none⟩ (.bool false) = WW at *
    have bw := BW.cell
    refine bodyPost_ret (v := .tuple #[.agg #[.string TT, .int .i64 7, .bool false], .int .i64 0]) (by simp [results, Tryz.results17, go_sem, bw]) rfl ⟨rfl, KF⟩
set_option maxRecDepth 100000 in
set_option maxHeartbeats 16000000 in
theorem rend_arg2m (o : Int) (ho : o = 14 ∨ o = 15 ∨ o = 16) (P0 : ByteArray) (P1 : ByteArray) (b off cap : Nat) (hb : b < w.heap.size)
     (x00 : w.cell? ⟨b, off, none⟩ = some (.string P0)) (hp0 : P0.size ≤ 18014398509481984) (x10 : w.cell? ⟨b, off + 3, none⟩ = some (.string P1)) (hp1 : P1.size ≤ 18014398509481984) (hm : modeW n ≠ ⟨#[]⟩) :
    Calls Tryz.prog 17 #[.agg #[.int .i64 o, .int .i64 n], .slice (some ⟨b, off, none⟩) 2 cap, .agg #[.slice AE ne ce, .slice AT nt ct, .slice AI ni ci, .slice AD nd cd, .slice AM nmm cm]] w fun e w' => e = .returned (.tuple #[.agg #[.string (callW o ++ ⟨#[40]⟩ ++ P0 ++ ⟨#[44, 32]⟩ ++ P1 ++ ⟨#[44, 32]⟩ ++ modeW n ++ ⟨#[41]⟩), .int .i64 7, .bool false], .int .i64 0]) ∧ Kept w w' := by
  have HCW := Lib.hid (fun w1 => callWord_any o w1)
  have hcz := callW_size o
  have HMW := Lib.hid (fun w1 => modeWord_any n w1)
  have hmz := modeW_size n
  generalize callW o = C at *
  generalize modeW n = M at *
  have hem := empE M
  rw [decide_eq_false hm] at hem
  clear hm
  have z0 : (C : ByteArray).size = C.size := by rfl
  have q0 : ¬ (9223372036854775807 < (C : ByteArray).size + (⟨#[40]⟩ : ByteArray).size) := by rw [z0]; show ¬ (_ < C.size + 1); omega
  have z1 : (C ++ ⟨#[40]⟩ : ByteArray).size = C.size + 1 := by rw [ByteArray.size_append, z0]; rfl
  have q1 : ¬ (9223372036854775807 < (C ++ ⟨#[40]⟩ : ByteArray).size + (P0 : ByteArray).size) := by rw [z1]; show ¬ (_ < C.size + 1 + P0.size); omega
  have z2 : (C ++ ⟨#[40]⟩ ++ P0 : ByteArray).size = C.size + 1 + P0.size := by rw [ByteArray.size_append, z1]
  have q2 : ¬ (9223372036854775807 < (C ++ ⟨#[40]⟩ ++ P0 : ByteArray).size + (⟨#[44, 32]⟩ : ByteArray).size) := by rw [z2]; show ¬ (_ < C.size + 1 + P0.size + 2); omega
  have z3 : (C ++ ⟨#[40]⟩ ++ P0 ++ ⟨#[44, 32]⟩ : ByteArray).size = C.size + 1 + P0.size + 2 := by rw [ByteArray.size_append, z2]; rfl
  have q3 : ¬ (9223372036854775807 < (C ++ ⟨#[40]⟩ ++ P0 ++ ⟨#[44, 32]⟩ : ByteArray).size + (P1 : ByteArray).size) := by rw [z3]; show ¬ (_ < C.size + 1 + P0.size + 2 + P1.size); omega
  have z4 : (C ++ ⟨#[40]⟩ ++ P0 ++ ⟨#[44, 32]⟩ ++ P1 : ByteArray).size = C.size + 1 + P0.size + 2 + P1.size := by rw [ByteArray.size_append, z3]
  have q4 : ¬ (9223372036854775807 < (C ++ ⟨#[40]⟩ ++ P0 ++ ⟨#[44, 32]⟩ ++ P1 : ByteArray).size + (⟨#[44, 32]⟩ : ByteArray).size) := by rw [z4]; show ¬ (_ < C.size + 1 + P0.size + 2 + P1.size + 2); omega
  have z5 : (C ++ ⟨#[40]⟩ ++ P0 ++ ⟨#[44, 32]⟩ ++ P1 ++ ⟨#[44, 32]⟩ : ByteArray).size = C.size + 1 + P0.size + 2 + P1.size + 2 := by rw [ByteArray.size_append, z4]; rfl
  have q5 : ¬ (9223372036854775807 < (C ++ ⟨#[40]⟩ ++ P0 ++ ⟨#[44, 32]⟩ ++ P1 ++ ⟨#[44, 32]⟩ : ByteArray).size + (M : ByteArray).size) := by rw [z5]; show ¬ (_ < C.size + 1 + P0.size + 2 + P1.size + 2 + M.size); omega
  have z6 : (C ++ ⟨#[40]⟩ ++ P0 ++ ⟨#[44, 32]⟩ ++ P1 ++ ⟨#[44, 32]⟩ ++ M : ByteArray).size = C.size + 1 + P0.size + 2 + P1.size + 2 + M.size := by rw [ByteArray.size_append, z5]
  have q6 : ¬ (9223372036854775807 < (C ++ ⟨#[40]⟩ ++ P0 ++ ⟨#[44, 32]⟩ ++ P1 ++ ⟨#[44, 32]⟩ ++ M : ByteArray).size + (⟨#[41]⟩ : ByteArray).size) := by rw [z6]; show ¬ (_ < C.size + 1 + P0.size + 2 + P1.size + 2 + M.size + 1); omega
  clear z6 z5 z4 z3 z2 z1 z0
  have HAT := Lib.hid (fun w1 => atom_any (C ++ ⟨#[40]⟩ ++ P0 ++ ⟨#[44, 32]⟩ ++ P1 ++ ⟨#[44, 32]⟩ ++ M ++ ⟨#[41]⟩) w1)
  unfold pcV atomP at HAT
  rcases ho with rfl | rfl | rfl
  · have K0 := Lib.hid ((((Kept.refl w).alloc (.cells #[.int .i64 14, .int .i64 n] 41)).alloc (.cells #[.slice AE ne ce, .slice AT nt ct, .slice AI ni ci, .slice AD nd cd, .slice AM nmm cm] 26)).alloc (.cells #[.string ⟨#[]⟩, .int .i64 0, .bool false] 50))
    go_enter Tryz.func17, Tryz.ntmps17
    go_wp2_with (go_at_call 29; refine (HMW.out _).mono ?_; rintro e wq ⟨rfl, rfl⟩)
    obtain ⟨B1, B2, B3⟩ := (Kept.refl (((w.alloc (.cells #[.int .i64 14, .int .i64 n] 41)).alloc (.cells #[.slice AE ne ce, .slice AT nt ct, .slice AI ni ci, .slice AD nd cd, .slice AM nmm cm] 26)).alloc (.cells #[.string ⟨#[]⟩, .int .i64 0, .bool false] 50))).blk3
    have KK := K0.out
    generalize ((w.alloc (.cells #[.int .i64 14, .int .i64 n] 41)).alloc (.cells #[.slice AE ne ce, .slice AT nt ct, .slice AI ni ci, .slice AD nd cd, .slice AM nmm cm] 26)).alloc (.cells #[.string ⟨#[]⟩, .int .i64 0, .bool false] 50) = W at *
    have a0 := KW.cell B1.lt (B1.cell 0)
    have hbW := Nat.lt_of_lt_of_le hb KK.size
    have y00 := KW.cell hbW (KK.cell (p := ⟨b, _, none⟩) hb x00)
    have y10 := KW.cell hbW (KK.cell (p := ⟨b, _, none⟩) hb x10)
    refine wp_region_kept_tail 20 (by kernel_rfl) (by kernel_rfl) ?_
    simp only [List.take_succ_cons, List.take_zero, List.drop_succ_cons, List.drop_zero]
    repeat (go_big_quiet_step (first | (go_at_call 28; exact KW.pure (HCW.out _)) | (go_at_call 27; exact KW.call (HAT.out _))))
    refine wpQuiet_nil ?_
    rintro w5 ⟨⟨wx, hx2⟩, hh⟩
    obtain rfl : w5 = wx := hh
    have C3 := B3.kept hx2
    have c3c := C3.cell
    have c3l := C3.lt
    have c3f := C3.frozen
    have KX := KK.trans hx2
    go_wp2_with fail
    generalize (C ++ ⟨#[40]⟩ ++ P0 ++ ⟨#[44, 32]⟩ ++ P1 ++ ⟨#[44, 32]⟩ ++ M ++ ⟨#[41]⟩ : ByteArray) = TT at *
    have BW : Blk (((w5.setCell ⟨w.heap.size + 1 + 1, 0, none⟩ (.string TT)).setCell ⟨w.heap.size + 1 + 1, 1, none⟩ (.int .i64 7)).setCell ⟨w.heap.size + 1 + 1, 2, none⟩ (.bool false)) (w.heap.size + 1 + 1) 50 #[.string TT, .int .i64 7, .bool false] := ((C3.set_ 0 (.string TT)).set_ 1 (.int .i64 7)).set_ 2 (.bool false)
    have KF : Kept w (((w5.setCell ⟨w.heap.size + 1 + 1, 0, none⟩ (.string TT)).setCell ⟨w.heap.size + 1 + 1, 1, none⟩ (.int .i64 7)).setCell ⟨w.heap.size + 1 + 1, 2, none⟩ (.bool false)) := by
      repeat refine Kept.setCell ?_ (by simp only; omega) _
      exact KX
    generalize ((w5.setCell ⟨w.heap.size + 1 + 1, 0, none⟩ (.string TT)).setCell ⟨w.heap.size + 1 + 1, 1, none⟩ (.int .i64 7)).setCell ⟨w.heap.size + 1 + 1, 2, none⟩ (.bool false) = WW at *
    have bw := BW.cell
    refine bodyPost_ret (v := .tuple #[.agg #[.string TT, .int .i64 7, .bool false], .int .i64 0]) (by simp [results, Tryz.results17, go_sem, bw]) rfl ⟨rfl, KF⟩
  · have K0 := Lib.hid ((((Kept.refl w).alloc (.cells #[.int .i64 15, .int .i64 n] 41)).alloc (.cells #[.slice AE ne ce, .slice AT nt ct, .slice AI ni ci, .slice AD nd cd, .slice AM nmm cm] 26)).alloc (.cells #[.string ⟨#[]⟩, .int .i64 0, .bool false] 50))
    go_enter Tryz.func17, Tryz.ntmps17
    go_wp2_with (go_at_call 29; refine (HMW.out _).mono ?_; rintro e wq ⟨rfl, rfl⟩)
    obtain ⟨B1, B2, B3⟩ := (Kept.refl (((w.alloc (.cells #[.int .i64 15, .int .i64 n] 41)).alloc (.cells #[.slice AE ne ce, .slice AT nt ct, .slice AI ni ci, .slice AD nd cd, .slice AM nmm cm] 26)).alloc (.cells #[.string ⟨#[]⟩, .int .i64 0, .bool false] 50))).blk3
    have KK := K0.out
    generalize ((w.alloc (.cells #[.int .i64 15, .int .i64 n] 41)).alloc (.cells #[.slice AE ne ce, .slice AT nt ct, .slice AI ni ci, .slice AD nd cd, .slice AM nmm cm] 26)).alloc (.cells #[.string ⟨#[]⟩, .int .i64 0, .bool false] 50) = W at *
    have a0 := KW.cell B1.lt (B1.cell 0)
    have hbW := Nat.lt_of_lt_of_le hb KK.size
    have y00 := KW.cell hbW (KK.cell (p := ⟨b, _, none⟩) hb x00)
    have y10 := KW.cell hbW (KK.cell (p := ⟨b, _, none⟩) hb x10)
    refine wp_region_kept_tail 20 (by kernel_rfl) (by kernel_rfl) ?_
    simp only [List.take_succ_cons, List.take_zero, List.drop_succ_cons, List.drop_zero]
    repeat (go_big_quiet_step (first | (go_at_call 28; exact KW.pure (HCW.out _)) | (go_at_call 27; exact KW.call (HAT.out _))))
    refine wpQuiet_nil ?_
    rintro w5 ⟨⟨wx, hx2⟩, hh⟩
    obtain rfl : w5 = wx := hh
    have C3 := B3.kept hx2
    have c3c := C3.cell
    have c3l := C3.lt
    have c3f := C3.frozen
    have KX := KK.trans hx2
    go_wp2_with fail
    generalize (C ++ ⟨#[40]⟩ ++ P0 ++ ⟨#[44, 32]⟩ ++ P1 ++ ⟨#[44, 32]⟩ ++ M ++ ⟨#[41]⟩ : ByteArray) = TT at *
    have BW : Blk (((w5.setCell ⟨w.heap.size + 1 + 1, 0, none⟩ (.string TT)).setCell ⟨w.heap.size + 1 + 1, 1, none⟩ (.int .i64 7)).setCell ⟨w.heap.size + 1 + 1, 2, none⟩ (.bool false)) (w.heap.size + 1 + 1) 50 #[.string TT, .int .i64 7, .bool false] := ((C3.set_ 0 (.string TT)).set_ 1 (.int .i64 7)).set_ 2 (.bool false)
    have KF : Kept w (((w5.setCell ⟨w.heap.size + 1 + 1, 0, none⟩ (.string TT)).setCell ⟨w.heap.size + 1 + 1, 1, none⟩ (.int .i64 7)).setCell ⟨w.heap.size + 1 + 1, 2, none⟩ (.bool false)) := by
      repeat refine Kept.setCell ?_ (by simp only; omega) _
      exact KX
    generalize ((w5.setCell ⟨w.heap.size + 1 + 1, 0, none⟩ (.string TT)).setCell ⟨w.heap.size + 1 + 1, 1, none⟩ (.int .i64 7)).setCell ⟨w.heap.size + 1 + 1, 2, none⟩ (.bool false) = WW at *
    have bw := BW.cell
    refine bodyPost_ret (v := .tuple #[.agg #[.string TT, .int .i64 7, .bool false], .int .i64 0]) (by simp [results, Tryz.results17, go_sem, bw]) rfl ⟨rfl, KF⟩
  · have K0 := Lib.hid ((((Kept.refl w).alloc (.cells #[.int .i64 16, .int .i64 n] 41)).alloc (.cells #[.slice AE ne ce, .slice AT nt ct, .slice AI ni ci, .slice AD nd cd, .slice AM nmm cm] 26)).alloc (.cells #[.string ⟨#[]⟩, .int .i64 0, .bool false] 50))
    go_enter Tryz.func17, Tryz.ntmps17
    go_wp2_with (go_at_call 29; refine (HMW.out _).mono ?_; rintro e wq ⟨rfl, rfl⟩)
    obtain ⟨B1, B2, B3⟩ := (Kept.refl (((w.alloc (.cells #[.int .i64 16, .int .i64 n] 41)).alloc (.cells #[.slice AE ne ce, .slice AT nt ct, .slice AI ni ci, .slice AD nd cd, .slice AM nmm cm] 26)).alloc (.cells #[.string ⟨#[]⟩, .int .i64 0, .bool false] 50))).blk3
    have KK := K0.out
    generalize ((w.alloc (.cells #[.int .i64 16, .int .i64 n] 41)).alloc (.cells #[.slice AE ne ce, .slice AT nt ct, .slice AI ni ci, .slice AD nd cd, .slice AM nmm cm] 26)).alloc (.cells #[.string ⟨#[]⟩, .int .i64 0, .bool false] 50) = W at *
    have a0 := KW.cell B1.lt (B1.cell 0)
    have hbW := Nat.lt_of_lt_of_le hb KK.size
    have y00 := KW.cell hbW (KK.cell (p := ⟨b, _, none⟩) hb x00)
    have y10 := KW.cell hbW (KK.cell (p := ⟨b, _, none⟩) hb x10)
    refine wp_region_kept_tail 20 (by kernel_rfl) (by kernel_rfl) ?_
    simp only [List.take_succ_cons, List.take_zero, List.drop_succ_cons, List.drop_zero]
    repeat (go_big_quiet_step (first | (go_at_call 28; exact KW.pure (HCW.out _)) | (go_at_call 27; exact KW.call (HAT.out _))))
    refine wpQuiet_nil ?_
    rintro w5 ⟨⟨wx, hx2⟩, hh⟩
    obtain rfl : w5 = wx := hh
    have C3 := B3.kept hx2
    have c3c := C3.cell
    have c3l := C3.lt
    have c3f := C3.frozen
    have KX := KK.trans hx2
    go_wp2_with fail
    generalize (C ++ ⟨#[40]⟩ ++ P0 ++ ⟨#[44, 32]⟩ ++ P1 ++ ⟨#[44, 32]⟩ ++ M ++ ⟨#[41]⟩ : ByteArray) = TT at *
    have BW : Blk (((w5.setCell ⟨w.heap.size + 1 + 1, 0, none⟩ (.string TT)).setCell ⟨w.heap.size + 1 + 1, 1, none⟩ (.int .i64 7)).setCell ⟨w.heap.size + 1 + 1, 2, none⟩ (.bool false)) (w.heap.size + 1 + 1) 50 #[.string TT, .int .i64 7, .bool false] := ((C3.set_ 0 (.string TT)).set_ 1 (.int .i64 7)).set_ 2 (.bool false)
    have KF : Kept w (((w5.setCell ⟨w.heap.size + 1 + 1, 0, none⟩ (.string TT)).setCell ⟨w.heap.size + 1 + 1, 1, none⟩ (.int .i64 7)).setCell ⟨w.heap.size + 1 + 1, 2, none⟩ (.bool false)) := by
      repeat refine Kept.setCell ?_ (by simp only; omega) _
      exact KX
    generalize ((w5.setCell ⟨w.heap.size + 1 + 1, 0, none⟩ (.string TT)).setCell ⟨w.heap.size + 1 + 1, 1, none⟩ (.int .i64 7)).setCell ⟨w.heap.size + 1 + 1, 2, none⟩ (.bool false) = WW at *
    have bw := BW.cell
    refine bodyPost_ret (v := .tuple #[.agg #[.string TT, .int .i64 7, .bool false], .int .i64 0]) (by simp [results, Tryz.results17, go_sem, bw]) rfl ⟨rfl, KF⟩
set_option maxRecDepth 100000 in
set_option maxHeartbeats 16000000 in
theorem rend_arg2x (o : Int) (ho : o = 14 ∨ o = 15 ∨ o = 16) (A0 : Option Addr) (n0 c0 : Nat) (hm : modeW n = ⟨#[]⟩) : Calls Tryz.prog 17 #[.agg #[.int .i64 o, .int .i64 n], .slice A0 n0 c0, .agg #[.slice AE ne ce, .slice AT nt ct, .slice AI ni ci, .slice AD nd cd, .slice AM nmm cm]] w fun e w' => e = .returned (.tuple #[.agg #[.string ⟨#[]⟩, .int .i64 0, .bool false], .int .i64 3]) ∧ Kept w w' := by
  have HMW := Lib.hid (fun w1 => modeWord_any n w1)
  generalize modeW n = M at *
  have hem := empE M
  rw [decide_eq_true hm] at hem
  clear hm
  rcases ho with rfl | rfl | rfl
  · have K0 := Lib.hid ((((Kept.refl w).alloc (.cells #[.int .i64 14, .int .i64 n] 41)).alloc (.cells #[.slice AE ne ce, .slice AT nt ct, .slice AI ni ci, .slice AD nd cd, .slice AM nmm cm] 26)).alloc (.cells #[.string ⟨#[]⟩, .int .i64 0, .bool false] 50))
    go_enter Tryz.func17, Tryz.ntmps17
    go_wp2_with (go_at_call 29; refine (HMW.out _).mono ?_; rintro e wq ⟨rfl, rfl⟩)
    obtain ⟨B1, B2, B3⟩ := (Kept.refl (((w.alloc (.cells #[.int .i64 14, .int .i64 n] 41)).alloc (.cells #[.slice AE ne ce, .slice AT nt ct, .slice AI ni ci, .slice AD nd cd, .slice AM nmm cm] 26)).alloc (.cells #[.string ⟨#[]⟩, .int .i64 0, .bool false] 50))).blk3
    have KK := K0.out
    generalize ((w.alloc (.cells #[.int .i64 14, .int .i64 n] 41)).alloc (.cells #[.slice AE ne ce, .slice AT nt ct, .slice AI ni ci, .slice AD nd cd, .slice AM nmm cm] 26)).alloc (.cells #[.string ⟨#[]⟩, .int .i64 0, .bool false] 50) = W at *
    have bw := B3.cell
    refine bodyPost_ret (v := .tuple #[.agg #[.string ⟨#[]⟩, .int .i64 0, .bool false], .int .i64 3]) (by simp [results, Tryz.results17, go_sem, bw]) rfl ⟨rfl, ?_⟩
    repeat refine Kept.setCell ?_ (by simp only; omega) _
    exact KK
  · have K0 := Lib.hid ((((Kept.refl w).alloc (.cells #[.int .i64 15, .int .i64 n] 41)).alloc (.cells #[.slice AE ne ce, .slice AT nt ct, .slice AI ni ci, .slice AD nd cd, .slice AM nmm cm] 26)).alloc (.cells #[.string ⟨#[]⟩, .int .i64 0, .bool false] 50))
    go_enter Tryz.func17, Tryz.ntmps17
    go_wp2_with (go_at_call 29; refine (HMW.out _).mono ?_; rintro e wq ⟨rfl, rfl⟩)
    obtain ⟨B1, B2, B3⟩ := (Kept.refl (((w.alloc (.cells #[.int .i64 15, .int .i64 n] 41)).alloc (.cells #[.slice AE ne ce, .slice AT nt ct, .slice AI ni ci, .slice AD nd cd, .slice AM nmm cm] 26)).alloc (.cells #[.string ⟨#[]⟩, .int .i64 0, .bool false] 50))).blk3
    have KK := K0.out
    generalize ((w.alloc (.cells #[.int .i64 15, .int .i64 n] 41)).alloc (.cells #[.slice AE ne ce, .slice AT nt ct, .slice AI ni ci, .slice AD nd cd, .slice AM nmm cm] 26)).alloc (.cells #[.string ⟨#[]⟩, .int .i64 0, .bool false] 50) = W at *
    have bw := B3.cell
    refine bodyPost_ret (v := .tuple #[.agg #[.string ⟨#[]⟩, .int .i64 0, .bool false], .int .i64 3]) (by simp [results, Tryz.results17, go_sem, bw]) rfl ⟨rfl, ?_⟩
    repeat refine Kept.setCell ?_ (by simp only; omega) _
    exact KK
  · have K0 := Lib.hid ((((Kept.refl w).alloc (.cells #[.int .i64 16, .int .i64 n] 41)).alloc (.cells #[.slice AE ne ce, .slice AT nt ct, .slice AI ni ci, .slice AD nd cd, .slice AM nmm cm] 26)).alloc (.cells #[.string ⟨#[]⟩, .int .i64 0, .bool false] 50))
    go_enter Tryz.func17, Tryz.ntmps17
    go_wp2_with (go_at_call 29; refine (HMW.out _).mono ?_; rintro e wq ⟨rfl, rfl⟩)
    obtain ⟨B1, B2, B3⟩ := (Kept.refl (((w.alloc (.cells #[.int .i64 16, .int .i64 n] 41)).alloc (.cells #[.slice AE ne ce, .slice AT nt ct, .slice AI ni ci, .slice AD nd cd, .slice AM nmm cm] 26)).alloc (.cells #[.string ⟨#[]⟩, .int .i64 0, .bool false] 50))).blk3
    have KK := K0.out
    generalize ((w.alloc (.cells #[.int .i64 16, .int .i64 n] 41)).alloc (.cells #[.slice AE ne ce, .slice AT nt ct, .slice AI ni ci, .slice AD nd cd, .slice AM nmm cm] 26)).alloc (.cells #[.string ⟨#[]⟩, .int .i64 0, .bool false] 50) = W at *
    have bw := B3.cell
    refine bodyPost_ret (v := .tuple #[.agg #[.string ⟨#[]⟩, .int .i64 0, .bool false], .int .i64 3]) (by simp [results, Tryz.results17, go_sem, bw]) rfl ⟨rfl, ?_⟩
    repeat refine Kept.setCell ?_ (by simp only; omega) _
    exact KK
end
end Go.Proofs.YtdnjfpmngnkcfaaGreatDoor
/- What render of package exprtext computes of conditions, negations, tables and binary operations. (Printed by wip/genetrendc.py.) -/
namespace Go.Proofs.YtdnjfpmngnkcfaaGreatDoor
open Go.RowKit

theorem withS_size (p : Pc) (c : Int) : (withS p c).size ≤ p.t.size + 2 := by
  unfold withS
  split
  · rw [ByteArray.size_append, ByteArray.size_append]; show 1 + p.t.size + 1 ≤ _; omega
  · omega
section
variable (n : Int) (AE AT AI AD AM : Option Addr) (ne ce nt ct ni ci nd cd nmm cm : Nat) (w : World)
set_option maxRecDepth 100000 in
set_option maxHeartbeats 16000000 in
theorem rend_if  (P0 : ByteArray) (P1 : ByteArray) (P2 : ByteArray) (b off cap : Nat) (hb : b < w.heap.size)
     (x00 : w.cell? ⟨b, off, none⟩ = some (.string P0)) (hp0 : P0.size ≤ 18014398509481984) (x10 : w.cell? ⟨b, off + 3, none⟩ = some (.string P1)) (hp1 : P1.size ≤ 18014398509481984) (x20 : w.cell? ⟨b, off + 6, none⟩ = some (.string P2)) (hp2 : P2.size ≤ 18014398509481984) :
    Calls Tryz.prog 17 #[.agg #[.int .i64 26, .int .i64 n], .slice (some ⟨b, off, none⟩) 3 cap, .agg #[.slice AE ne ce, .slice AT nt ct, .slice AI ni ci, .slice AD nd cd, .slice AM nmm cm]] w fun e w' => e = .returned (.tuple #[.agg #[.string (⟨#[105, 102, 32]⟩ ++ P0 ++ ⟨#[32, 116, 104, 101, 110, 32]⟩ ++ P1 ++ ⟨#[32, 101, 108, 115, 101, 32]⟩ ++ P2), .int .i64 0, .bool false], .int .i64 0]) ∧ Kept w w' := by
  have z0 : (⟨#[105, 102, 32]⟩ : ByteArray).size = 3 := by rfl
  have q0 : ¬ (9223372036854775807 < (⟨#[105, 102, 32]⟩ : ByteArray).size + (P0 : ByteArray).size) := by rw [z0]; show ¬ (_ < 3 + P0.size); omega
  have z1 : (⟨#[105, 102, 32]⟩ ++ P0 : ByteArray).size = 3 + P0.size := by rw [ByteArray.size_append, z0]
  have q1 : ¬ (9223372036854775807 < (⟨#[105, 102, 32]⟩ ++ P0 : ByteArray).size + (⟨#[32, 116, 104, 101, 110, 32]⟩ : ByteArray).size) := by rw [z1]; show ¬ (_ < 3 + P0.size + 6); omega
  have z2 : (⟨#[105, 102, 32]⟩ ++ P0 ++ ⟨#[32, 116, 104, 101, 110, 32]⟩ : ByteArray).size = 3 + P0.size + 6 := by rw [ByteArray.size_append, z1]; rfl
  have q2 : ¬ (9223372036854775807 < (⟨#[105, 102, 32]⟩ ++ P0 ++ ⟨#[32, 116, 104, 101, 110, 32]⟩ : ByteArray).size + (P1 : ByteArray).size) := by rw [z2]; show ¬ (_ < 3 + P0.size + 6 + P1.size); omega
  have z3 : (⟨#[105, 102, 32]⟩ ++ P0 ++ ⟨#[32, 116, 104, 101, 110, 32]⟩ ++ P1 : ByteArray).size = 3 + P0.size + 6 + P1.size := by rw [ByteArray.size_append, z2]
  have q3 : ¬ (9223372036854775807 < (⟨#[105, 102, 32]⟩ ++ P0 ++ ⟨#[32, 116, 104, 101, 110, 32]⟩ ++ P1 : ByteArray).size + (⟨#[32, 101, 108, 115, 101, 32]⟩ : ByteArray).size) := by rw [z3]; show ¬ (_ < 3 + P0.size + 6 + P1.size + 6); omega
  have z4 : (⟨#[105, 102, 32]⟩ ++ P0 ++ ⟨#[32, 116, 104, 101, 110, 32]⟩ ++ P1 ++ ⟨#[32, 101, 108, 115, 101, 32]⟩ : ByteArray).size = 3 + P0.size + 6 + P1.size + 6 := by rw [ByteArray.size_append, z3]; rfl
  have q4 : ¬ (9223372036854775807 < (⟨#[105, 102, 32]⟩ ++ P0 ++ ⟨#[32, 116, 104, 101, 110, 32]⟩ ++ P1 ++ ⟨#[32, 101, 108, 115, 101, 32]⟩ : ByteArray).size + (P2 : ByteArray).size) := by rw [z4]; show ¬ (_ < 3 + P0.size + 6 + P1.size + 6 + P2.size); omega
  clear z4 z3 z2 z1 z0
  have K0 := Lib.hid ((((Kept.refl w).alloc (.cells #[.int .i64 26, .int .i64 n] 41)).alloc (.cells #[.slice AE ne ce, .slice AT nt ct, .slice AI ni ci, .slice AD nd cd, .slice AM nmm cm] 26)).alloc (.cells #[.string ⟨#[]⟩, .int .i64 0, .bool false] 50))
  go_enter Tryz.func17, Tryz.ntmps17
  go_wp2_with fail
  obtain ⟨B1, B2, B3⟩ := (Kept.refl (((w.alloc (.cells #[.int .i64 26, .int .i64 n] 41)).alloc (.cells #[.slice AE ne ce, .slice AT nt ct, .slice AI ni ci, .slice AD nd cd, .slice AM nmm cm] 26)).alloc (.cells #[.string ⟨#[]⟩, .int .i64 0, .bool false] 50))).blk3
  have KK := K0.out
  generalize ((w.alloc (.cells #[.int .i64 26, .int .i64 n] 41)).alloc (.cells #[.slice AE ne ce, .slice AT nt ct, .slice AI ni ci, .slice AD nd cd, .slice AM nmm cm] 26)).alloc (.cells #[.string ⟨#[]⟩, .int .i64 0, .bool false] 50) = W at *
  have hbW := Nat.lt_of_lt_of_le hb KK.size
  have y00 := KW.cell hbW (KK.cell (p := ⟨b, _, none⟩) hb x00)
  have y10 := KW.cell hbW (KK.cell (p := ⟨b, _, none⟩) hb x10)
  have y20 := KW.cell hbW (KK.cell (p := ⟨b, _, none⟩) hb x20)
  refine wp_region_kept (by kernel_rfl) (by kernel_rfl) ?_
  repeat (go_big_quiet_step (fail))
  refine wpQuiet_nil ?_
  rintro w5 ⟨⟨wx, hx2⟩, hh⟩
  obtain rfl : w5 = wx := hh
  have C3 := B3.kept hx2
  have c3c := C3.cell
  have c3l := C3.lt
  have c3f := C3.frozen
  have KX := KK.trans hx2
  go_wp2_with fail
  generalize (⟨#[105, 102, 32]⟩ ++ P0 ++ ⟨#[32, 116, 104, 101, 110, 32]⟩ ++ P1 ++ ⟨#[32, 101, 108, 115, 101, 32]⟩ ++ P2 : ByteArray) = TT at *
  have BW : Blk (((w5.setCell ⟨w.heap.size + 1 + 1, 0, none⟩ (.string TT)).setCell ⟨w.heap.size + 1 + 1, 1, none⟩ (.int .i64 0)).setCell ⟨w.heap.size + 1 + 1, 2, none⟩ (.bool false)) (w.heap.size + 1 + 1) 50 #[.string TT, .int .i64 0, .bool false] := ((C3.set_ 0 (.string TT)).set_ 1 (.int .i64 0)).set_ 2 (.bool false)
  have KF : Kept w (((w5.setCell ⟨w.heap.size + 1 + 1, 0, none⟩ (.string TT)).setCell ⟨w.heap.size + 1 + 1, 1, none⟩ (.int .i64 0)).setCell ⟨w.heap.size + 1 + 1, 2, none⟩ (.bool false)) := by
    repeat refine Kept.setCell ?_ (by simp only; omega) _
    exact KX
  generalize ((w5.setCell ⟨w.heap.size + 1 + 1, 0, none⟩ (.string TT)).setCell ⟨w.heap.size + 1 + 1, 1, none⟩ (.int .i64 0)).setCell ⟨w.heap.size + 1 + 1, 2, none⟩ (.bool false) = WW at *
  have bw := BW.cell
  refine bodyPost_ret (v := .tuple #[.agg #[.string TT, .int .i64 0, .bool false], .int .i64 0]) (by simp [results, Tryz.results17, go_sem, bw]) rfl ⟨rfl, KF⟩
set_option maxRecDepth 100000 in
set_option maxHeartbeats 16000000 in
theorem rend_not  (P0 : ByteArray) (c0 : Int) (b0 : Bool) (b off cap : Nat) (hb : b < w.heap.size)
     (x00 : w.cell? ⟨b, off, none⟩ = some (.string P0)) (x01 : w.cell? ⟨b, off + 1, none⟩ = some (.int .i64 c0)) (x02 : w.cell? ⟨b, off + 2, none⟩ = some (.bool b0)) (hp0 : P0.size ≤ 18014398509481984) :
    Calls Tryz.prog 17 #[.agg #[.int .i64 25, .int .i64 n], .slice (some ⟨b, off, none⟩) 1 cap, .agg #[.slice AE ne ce, .slice AT nt ct, .slice AI ni ci, .slice AD nd cd, .slice AM nmm cm]] w fun e w' => e = .returned (.tuple #[.agg #[.string (⟨#[110, 111, 116, 32]⟩ ++ withS ⟨P0, c0, b0⟩ 6), .int .i64 6, .bool false], .int .i64 0]) ∧ Kept w w' := by
  have HW := Lib.hid (fun w1 => pwithin_any ⟨P0, c0, b0⟩ 6 hp0 w1)
  have hws := withS_size ⟨P0, c0, b0⟩ 6
  unfold pcV at HW
  dsimp only at HW hws
  generalize withS ⟨P0, c0, b0⟩ 6 = T at *
  have q0 : ¬ (9223372036854775807 < (⟨#[110, 111, 116, 32]⟩ : ByteArray).size + T.size) := by show ¬ (_ < 4 + T.size); omega
  have K0 := Lib.hid ((((Kept.refl w).alloc (.cells #[.int .i64 25, .int .i64 n] 41)).alloc (.cells #[.slice AE ne ce, .slice AT nt ct, .slice AI ni ci, .slice AD nd cd, .slice AM nmm cm] 26)).alloc (.cells #[.string ⟨#[]⟩, .int .i64 0, .bool false] 50))
  have Y0 := K0.out.cell (p := ⟨b, _, none⟩) hb x00
  have Y1 := K0.out.cell (p := ⟨b, _, none⟩) hb x01
  have Y2 := K0.out.cell (p := ⟨b, _, none⟩) hb x02
  have hbl := Nat.lt_of_lt_of_le hb K0.out.size
  go_enter Tryz.func17, Tryz.ntmps17
  go_wp2_with (go_at_call 30; refine (HW.out _).mono ?_; rintro e w5 ⟨rfl, k5⟩; obtain ⟨B1, B2, C3⟩ := (k5 : Kept (((w.alloc (.cells #[.int .i64 25, .int .i64 n] 41)).alloc (.cells #[.slice AE ne ce, .slice AT nt ct, .slice AI ni ci, .slice AD nd cd, .slice AM nmm cm] 26)).alloc (.cells #[.string ⟨#[]⟩, .int .i64 0, .bool false] 50)) w5).blk3; have c3c := C3.cell; have c3l := C3.lt; have c3f := C3.frozen)
  have KX := K0.out.trans k5
  generalize (⟨#[110, 111, 116, 32]⟩ ++ T : ByteArray) = TT at *
  have BW : Blk (((w5.setCell ⟨w.heap.size + 1 + 1, 0, none⟩ (.string TT)).setCell ⟨w.heap.size + 1 + 1, 1, none⟩ (.int .i64 6)).setCell ⟨w.heap.size + 1 + 1, 2, none⟩ (.bool false)) (w.heap.size + 1 + 1) 50 #[.string TT, .int .i64 6, .bool false] := ((C3.set_ 0 (.string TT)).set_ 1 (.int .i64 6)).set_ 2 (.bool false)
  have KF : Kept w (((w5.setCell ⟨w.heap.size + 1 + 1, 0, none⟩ (.string TT)).setCell ⟨w.heap.size + 1 + 1, 1, none⟩ (.int .i64 6)).setCell ⟨w.heap.size + 1 + 1, 2, none⟩ (.bool false)) := by
    repeat refine Kept.setCell ?_ (by simp only; omega) _
    exact KX
  generalize ((w5.setCell ⟨w.heap.size + 1 + 1, 0, none⟩ (.string TT)).setCell ⟨w.heap.size + 1 + 1, 1, none⟩ (.int .i64 6)).setCell ⟨w.heap.size + 1 + 1, 2, none⟩ (.bool false) = WW at *
  have bw := BW.cell
  refine bodyPost_ret (v := .tuple #[.agg #[.string TT, .int .i64 6, .bool false], .int .i64 0]) (by simp [results, Tryz.results17, go_sem, bw]) rfl ⟨rfl, KF⟩
set_option maxRecDepth 100000 in
set_option maxHeartbeats 16000000 in
theorem rend_neg  (P0 : ByteArray) (c0 : Int) (b0 : Bool) (b off cap : Nat) (hb : b < w.heap.size)
     (x00 : w.cell? ⟨b, off, none⟩ = some (.string P0)) (x01 : w.cell? ⟨b, off + 1, none⟩ = some (.int .i64 c0)) (x02 : w.cell? ⟨b, off + 2, none⟩ = some (.bool b0)) (hp0 : P0.size ≤ 18014398509481984) :
    Calls Tryz.prog 17 #[.agg #[.int .i64 10, .int .i64 n], .slice (some ⟨b, off, none⟩) 1 cap, .agg #[.slice AE ne ce, .slice AT nt ct, .slice AI ni ci, .slice AD nd cd, .slice AM nmm cm]] w fun e w' => e = .returned (.tuple #[.agg #[.string (⟨#[45]⟩ ++ (if b0 then ⟨#[40]⟩ ++ P0 ++ ⟨#[41]⟩ else withS ⟨P0, c0, b0⟩ 6)), .int .i64 6, .bool false], .int .i64 0]) ∧ Kept w w' := by
  have HW := Lib.hid (fun w1 => pwithin_any ⟨P0, c0, b0⟩ 6 hp0 w1)
  have hws := withS_size ⟨P0, c0, b0⟩ 6
  unfold pcV at HW
  dsimp only at HW hws
  generalize withS ⟨P0, c0, b0⟩ 6 = T at *
  have q0 : ¬ (9223372036854775807 < (⟨#[45]⟩ : ByteArray).size + T.size) := by show ¬ (_ < 1 + T.size); omega
  have y0 : (⟨#[40]⟩ : ByteArray).size = 1 := by rfl
  have r0 : ¬ (9223372036854775807 < (⟨#[40]⟩ : ByteArray).size + (P0 : ByteArray).size) := by rw [y0]; show ¬ (_ < 1 + P0.size); omega
  have y1 : (⟨#[40]⟩ ++ P0 : ByteArray).size = 1 + P0.size := by rw [ByteArray.size_append, y0]
  have r1 : ¬ (9223372036854775807 < (⟨#[40]⟩ ++ P0 : ByteArray).size + (⟨#[41]⟩ : ByteArray).size) := by rw [y1]; show ¬ (_ < 1 + P0.size + 1); omega
  clear y1 y0
  have hys : (⟨#[40]⟩ ++ P0 ++ ⟨#[41]⟩ : ByteArray).size = 1 + P0.size + 1 := by rw [ByteArray.size_append, ByteArray.size_append]; rfl
  have q3 : ¬ (9223372036854775807 < (⟨#[45]⟩ : ByteArray).size + (⟨#[40]⟩ ++ P0 ++ ⟨#[41]⟩ : ByteArray).size) := by rw [hys]; show ¬ (_ < 1 + (1 + P0.size + 1)); omega
  clear hys
  cases b0
  · have K0 := Lib.hid ((((Kept.refl w).alloc (.cells #[.int .i64 10, .int .i64 n] 41)).alloc (.cells #[.slice AE ne ce, .slice AT nt ct, .slice AI ni ci, .slice AD nd cd, .slice AM nmm cm] 26)).alloc (.cells #[.string ⟨#[]⟩, .int .i64 0, .bool false] 50))
    have Y0 := K0.out.cell (p := ⟨b, _, none⟩) hb x00
    have Y1 := K0.out.cell (p := ⟨b, _, none⟩) hb x01
    have Y2 := K0.out.cell (p := ⟨b, _, none⟩) hb x02
    have hbl := Nat.lt_of_lt_of_le hb K0.out.size
    rw [if_neg (by decide)]
    go_enter Tryz.func17, Tryz.ntmps17
    go_wp2_with (go_at_call 30; refine (HW.out _).mono ?_; rintro e w5 ⟨rfl, k5⟩; obtain ⟨B1, B2, C3⟩ := (k5 : Kept (((w.alloc (.cells #[.int .i64 10, .int .i64 n] 41)).alloc (.cells #[.slice AE ne ce, .slice AT nt ct, .slice AI ni ci, .slice AD nd cd, .slice AM nmm cm] 26)).alloc (.cells #[.string ⟨#[]⟩, .int .i64 0, .bool false] 50)) w5).blk3; have c3c := C3.cell; have c3l := C3.lt; have c3f := C3.frozen; have Z0 := k5.cell (p := ⟨b, _, none⟩) hbl Y0; have Z2 := k5.cell (p := ⟨b, _, none⟩) hbl Y2; have hbz := Nat.lt_of_lt_of_le hbl k5.size)
    have KX := K0.out.trans k5
    generalize (⟨#[45]⟩ ++ T : ByteArray) = TT at *
    have BW : Blk (((w5.setCell ⟨w.heap.size + 1 + 1, 0, none⟩ (.string TT)).setCell ⟨w.heap.size + 1 + 1, 1, none⟩ (.int .i64 6)).setCell ⟨w.heap.size + 1 + 1, 2, none⟩ (.bool false)) (w.heap.size + 1 + 1) 50 #[.string TT, .int .i64 6, .bool false] := ((C3.set_ 0 (.string TT)).set_ 1 (.int .i64 6)).set_ 2 (.bool false)
    have KF : Kept w (((w5.setCell ⟨w.heap.size + 1 + 1, 0, none⟩ (.string TT)).setCell ⟨w.heap.size + 1 + 1, 1, none⟩ (.int .i64 6)).setCell ⟨w.heap.size + 1 + 1, 2, none⟩ (.bool false)) := by
      repeat refine Kept.setCell ?_ (by simp only; omega) _
      exact KX
    generalize ((w5.setCell ⟨w.heap.size + 1 + 1, 0, none⟩ (.string TT)).setCell ⟨w.heap.size + 1 + 1, 1, none⟩ (.int .i64 6)).setCell ⟨w.heap.size + 1 + 1, 2, none⟩ (.bool false) = WW at *
    have bw := BW.cell
    refine bodyPost_ret (v := .tuple #[.agg #[.string TT, .int .i64 6, .bool false], .int .i64 0]) (by simp [results, Tryz.results17, go_sem, bw]) rfl ⟨rfl, KF⟩
  · have K0 := Lib.hid ((((Kept.refl w).alloc (.cells #[.int .i64 10, .int .i64 n] 41)).alloc (.cells #[.slice AE ne ce, .slice AT nt ct, .slice AI ni ci, .slice AD nd cd, .slice AM nmm cm] 26)).alloc (.cells #[.string ⟨#[]⟩, .int .i64 0, .bool false] 50))
    have Y0 := K0.out.cell (p := ⟨b, _, none⟩) hb x00
    have Y1 := K0.out.cell (p := ⟨b, _, none⟩) hb x01
    have Y2 := K0.out.cell (p := ⟨b, _, none⟩) hb x02
    have hbl := Nat.lt_of_lt_of_le hb K0.out.size
    rw [if_pos rfl]
    go_enter Tryz.func17, Tryz.ntmps17
    go_wp2_with (go_at_call 30; refine (HW.out _).mono ?_; rintro e w5 ⟨rfl, k5⟩; obtain ⟨B1, B2, C3⟩ := (k5 : Kept (((w.alloc (.cells #[.int .i64 10, .int .i64 n] 41)).alloc (.cells #[.slice AE ne ce, .slice AT nt ct, .slice AI ni ci, .slice AD nd cd, .slice AM nmm cm] 26)).alloc (.cells #[.string ⟨#[]⟩, .int .i64 0, .bool false] 50)) w5).blk3; have c3c := C3.cell; have c3l := C3.lt; have c3f := C3.frozen; have Z0 := k5.cell (p := ⟨b, _, none⟩) hbl Y0; have Z2 := k5.cell (p := ⟨b, _, none⟩) hbl Y2; have hbz := Nat.lt_of_lt_of_le hbl k5.size)
    have KX := K0.out.trans k5
    generalize (⟨#[45]⟩ ++ (⟨#[40]⟩ ++ P0 ++ ⟨#[41]⟩) : ByteArray) = TT at *
    have BW : Blk (((w5.setCell ⟨w.heap.size + 1 + 1, 0, none⟩ (.string TT)).setCell ⟨w.heap.size + 1 + 1, 1, none⟩ (.int .i64 6)).setCell ⟨w.heap.size + 1 + 1, 2, none⟩ (.bool false)) (w.heap.size + 1 + 1) 50 #[.string TT, .int .i64 6, .bool false] := ((C3.set_ 0 (.string TT)).set_ 1 (.int .i64 6)).set_ 2 (.bool false)
    have KF : Kept w (((w5.setCell ⟨w.heap.size + 1 + 1, 0, none⟩ (.string TT)).setCell ⟨w.heap.size + 1 + 1, 1, none⟩ (.int .i64 6)).setCell ⟨w.heap.size + 1 + 1, 2, none⟩ (.bool false)) := by
      repeat refine Kept.setCell ?_ (by simp only; omega) _
      exact KX
    generalize ((w5.setCell ⟨w.heap.size + 1 + 1, 0, none⟩ (.string TT)).setCell ⟨w.heap.size + 1 + 1, 1, none⟩ (.int .i64 6)).setCell ⟨w.heap.size + 1 + 1, 2, none⟩ (.bool false) = WW at *
    have bw := BW.cell
    refine bodyPost_ret (v := .tuple #[.agg #[.string TT, .int .i64 6, .bool false], .int .i64 0]) (by simp [results, Tryz.results17, go_sem, bw]) rfl ⟨rfl, KF⟩
set_option maxRecDepth 100000 in
set_option maxHeartbeats 16000000 in
theorem rend_op11  (P0 : ByteArray) (c0 : Int) (b0 : Bool) (P1 : ByteArray) (c1 : Int) (b1 : Bool) (b off cap : Nat) (hb : b < w.heap.size)
     (x00 : w.cell? ⟨b, off, none⟩ = some (.string P0)) (x01 : w.cell? ⟨b, off + 1, none⟩ = some (.int .i64 c0)) (x02 : w.cell? ⟨b, off + 2, none⟩ = some (.bool b0)) (hp0 : P0.size ≤ 18014398509481984) (x10 : w.cell? ⟨b, off + 3, none⟩ = some (.string P1)) (x11 : w.cell? ⟨b, off + 4, none⟩ = some (.int .i64 c1)) (x12 : w.cell? ⟨b, off + 5, none⟩ = some (.bool b1)) (hp1 : P1.size ≤ 18014398509481984) :
    Calls Tryz.prog 17 #[.agg #[.int .i64 11, .int .i64 n], .slice (some ⟨b, off, none⟩) 2 cap, .agg #[.slice AE ne ce, .slice AT nt ct, .slice AI ni ci, .slice AD nd cd, .slice AM nmm cm]] w fun e w' => e = .returned (.tuple #[.agg #[.string (withS ⟨P0, c0, b0⟩ 4 ++ ⟨#[32]⟩ ++ (opSg 11).1 ++ ⟨#[32]⟩ ++ withS ⟨P1, c1, b1⟩ 5), .int .i64 4, .bool false], .int .i64 0]) ∧ Kept w w' := by
  have HWA := Lib.hid (fun w1 => pwithin_any ⟨P0, c0, b0⟩ 4 hp0 w1)
  have HWB := Lib.hid (fun w1 => pwithin_any ⟨P1, c1, b1⟩ 5 hp1 w1)
  have hwa := withS_size ⟨P0, c0, b0⟩ 4
  have hwb := withS_size ⟨P1, c1, b1⟩ 5
  unfold pcV at HWA HWB
  dsimp only at HWA HWB hwa hwb
  have HOS := Lib.hid (fun w1 => opSign_any 11 w1)
  have hss : (opSg 11).1.size ≤ 3 := by decide
  rw [show (opSg 11).2 = 4 from rfl] at HOS
  generalize withS ⟨P0, c0, b0⟩ 4 = TA at *
  generalize withS ⟨P1, c1, b1⟩ 5 = TB at *
  generalize (opSg 11).1 = SG at *
  have z0 : (TA : ByteArray).size = TA.size := by rfl
  have q0 : ¬ (9223372036854775807 < (TA : ByteArray).size + (⟨#[32]⟩ : ByteArray).size) := by rw [z0]; show ¬ (_ < TA.size + 1); omega
  have z1 : (TA ++ ⟨#[32]⟩ : ByteArray).size = TA.size + 1 := by rw [ByteArray.size_append, z0]; rfl
  have q1 : ¬ (9223372036854775807 < (TA ++ ⟨#[32]⟩ : ByteArray).size + (SG : ByteArray).size) := by rw [z1]; show ¬ (_ < TA.size + 1 + SG.size); omega
  have z2 : (TA ++ ⟨#[32]⟩ ++ SG : ByteArray).size = TA.size + 1 + SG.size := by rw [ByteArray.size_append, z1]
  have q2 : ¬ (9223372036854775807 < (TA ++ ⟨#[32]⟩ ++ SG : ByteArray).size + (⟨#[32]⟩ : ByteArray).size) := by rw [z2]; show ¬ (_ < TA.size + 1 + SG.size + 1); omega
  have z3 : (TA ++ ⟨#[32]⟩ ++ SG ++ ⟨#[32]⟩ : ByteArray).size = TA.size + 1 + SG.size + 1 := by rw [ByteArray.size_append, z2]; rfl
  have q3 : ¬ (9223372036854775807 < (TA ++ ⟨#[32]⟩ ++ SG ++ ⟨#[32]⟩ : ByteArray).size + (TB : ByteArray).size) := by rw [z3]; show ¬ (_ < TA.size + 1 + SG.size + 1 + TB.size); omega
  clear z3 z2 z1 z0
  have K0 := Lib.hid ((((Kept.refl w).alloc (.cells #[.int .i64 11, .int .i64 n] 41)).alloc (.cells #[.slice AE ne ce, .slice AT nt ct, .slice AI ni ci, .slice AD nd cd, .slice AM nmm cm] 26)).alloc (.cells #[.string ⟨#[]⟩, .int .i64 0, .bool false] 50))
  go_enter Tryz.func17, Tryz.ntmps17
  go_wp2_with (go_at_call 31; refine (HOS.out _).mono ?_; rintro e wq ⟨rfl, rfl⟩)
  obtain ⟨B1, B2, B3⟩ := (Kept.refl (((w.alloc (.cells #[.int .i64 11, .int .i64 n] 41)).alloc (.cells #[.slice AE ne ce, .slice AT nt ct, .slice AI ni ci, .slice AD nd cd, .slice AM nmm cm] 26)).alloc (.cells #[.string ⟨#[]⟩, .int .i64 0, .bool false] 50))).blk3
  have KK := K0.out
  generalize ((w.alloc (.cells #[.int .i64 11, .int .i64 n] 41)).alloc (.cells #[.slice AE ne ce, .slice AT nt ct, .slice AI ni ci, .slice AD nd cd, .slice AM nmm cm] 26)).alloc (.cells #[.string ⟨#[]⟩, .int .i64 0, .bool false] 50) = W at *
  have hbW := Nat.lt_of_lt_of_le hb KK.size
  have y00 := KW.cell hbW (KK.cell (p := ⟨b, _, none⟩) hb x00)
  have y01 := KW.cell hbW (KK.cell (p := ⟨b, _, none⟩) hb x01)
  have y02 := KW.cell hbW (KK.cell (p := ⟨b, _, none⟩) hb x02)
  have y10 := KW.cell hbW (KK.cell (p := ⟨b, _, none⟩) hb x10)
  have y11 := KW.cell hbW (KK.cell (p := ⟨b, _, none⟩) hb x11)
  have y12 := KW.cell hbW (KK.cell (p := ⟨b, _, none⟩) hb x12)
  refine wp_region_kept (by kernel_rfl) (by kernel_rfl) ?_
  repeat (go_big_quiet_step (first | (go_at_call 30; with_reducible exact KW.call (HWA.out _)) | (go_at_call 30; with_reducible exact KW.call (HWB.out _))))
  refine wpQuiet_nil ?_
  rintro w5 ⟨⟨wx, hx2⟩, hh⟩
  obtain rfl : w5 = wx := hh
  have C3 := B3.kept hx2
  have c3c := C3.cell
  have c3l := C3.lt
  have c3f := C3.frozen
  have KX := KK.trans hx2
  go_wp2_with fail
  generalize (TA ++ ⟨#[32]⟩ ++ SG ++ ⟨#[32]⟩ ++ TB : ByteArray) = TT at *
  have BW : Blk (((w5.setCell ⟨w.heap.size + 1 + 1, 0, none⟩ (.string TT)).setCell ⟨w.heap.size + 1 + 1, 1, none⟩ (.int .i64 4)).setCell ⟨w.heap.size + 1 + 1, 2, none⟩ (.bool false)) (w.heap.size + 1 + 1) 50 #[.string TT, .int .i64 4, .bool false] := ((C3.set_ 0 (.string TT)).set_ 1 (.int .i64 4)).set_ 2 (.bool false)
  have KF : Kept w (((w5.setCell ⟨w.heap.size + 1 + 1, 0, none⟩ (.string TT)).setCell ⟨w.heap.size + 1 + 1, 1, none⟩ (.int .i64 4)).setCell ⟨w.heap.size + 1 + 1, 2, none⟩ (.bool false)) := by
    repeat refine Kept.setCell ?_ (by simp only; omega) _
    exact KX
  generalize ((w5.setCell ⟨w.heap.size + 1 + 1, 0, none⟩ (.string TT)).setCell ⟨w.heap.size + 1 + 1, 1, none⟩ (.int .i64 4)).setCell ⟨w.heap.size + 1 + 1, 2, none⟩ (.bool false) = WW at *
  have bw := BW.cell
  refine bodyPost_ret (v := .tuple #[.agg #[.string TT, .int .i64 4, .bool false], .int .i64 0]) (by simp [results, Tryz.results17, go_sem, bw]) rfl ⟨rfl, KF⟩
set_option maxRecDepth 100000 in
set_option maxHeartbeats 16000000 in
theorem rend_op12  (P0 : ByteArray) (c0 : Int) (b0 : Bool) (P1 : ByteArray) (c1 : Int) (b1 : Bool) (b off cap : Nat) (hb : b < w.heap.size)
     (x00 : w.cell? ⟨b, off, none⟩ = some (.string P0)) (x01 : w.cell? ⟨b, off + 1, none⟩ = some (.int .i64 c0)) (x02 : w.cell? ⟨b, off + 2, none⟩ = some (.bool b0)) (hp0 : P0.size ≤ 18014398509481984) (x10 : w.cell? ⟨b, off + 3, none⟩ = some (.string P1)) (x11 : w.cell? ⟨b, off + 4, none⟩ = some (.int .i64 c1)) (x12 : w.cell? ⟨b, off + 5, none⟩ = some (.bool b1)) (hp1 : P1.size ≤ 18014398509481984) :
    Calls Tryz.prog 17 #[.agg #[.int .i64 12, .int .i64 n], .slice (some ⟨b, off, none⟩) 2 cap, .agg #[.slice AE ne ce, .slice AT nt ct, .slice AI ni ci, .slice AD nd cd, .slice AM nmm cm]] w fun e w' => e = .returned (.tuple #[.agg #[.string (withS ⟨P0, c0, b0⟩ 4 ++ ⟨#[32]⟩ ++ (opSg 12).1 ++ ⟨#[32]⟩ ++ withS ⟨P1, c1, b1⟩ 5), .int .i64 4, .bool false], .int .i64 0]) ∧ Kept w w' := by
  have HWA := Lib.hid (fun w1 => pwithin_any ⟨P0, c0, b0⟩ 4 hp0 w1)
  have HWB := Lib.hid (fun w1 => pwithin_any ⟨P1, c1, b1⟩ 5 hp1 w1)
  have hwa := withS_size ⟨P0, c0, b0⟩ 4
  have hwb := withS_size ⟨P1, c1, b1⟩ 5
  unfold pcV at HWA HWB
  dsimp only at HWA HWB hwa hwb
  have HOS := Lib.hid (fun w1 => opSign_any 12 w1)
  have hss : (opSg 12).1.size ≤ 3 := by decide
  rw [show (opSg 12).2 = 4 from rfl] at HOS
  generalize withS ⟨P0, c0, b0⟩ 4 = TA at *
  generalize withS ⟨P1, c1, b1⟩ 5 = TB at *
  generalize (opSg 12).1 = SG at *
  have z0 : (TA : ByteArray).size = TA.size := by rfl
  have q0 : ¬ (9223372036854775807 < (TA : ByteArray).size + (⟨#[32]⟩ : ByteArray).size) := by rw [z0]; show ¬ (_ < TA.size + 1); omega
  have z1 : (TA ++ ⟨#[32]⟩ : ByteArray).size = TA.size + 1 := by rw [ByteArray.size_append, z0]; rfl
  have q1 : ¬ (9223372036854775807 < (TA ++ ⟨#[32]⟩ : ByteArray).size + (SG : ByteArray).size) := by rw [z1]; show ¬ (_ < TA.size + 1 + SG.size); omega
  have z2 : (TA ++ ⟨#[32]⟩ ++ SG : ByteArray).size = TA.size + 1 + SG.size := by rw [ByteArray.size_append, z1]
  have q2 : ¬ (9223372036854775807 < (TA ++ ⟨#[32]⟩ ++ SG : ByteArray).size + (⟨#[32]⟩ : ByteArray).size) := by rw [z2]; show ¬ (_ < TA.size + 1 + SG.size + 1); omega
  have z3 : (TA ++ ⟨#[32]⟩ ++ SG ++ ⟨#[32]⟩ : ByteArray).size = TA.size + 1 + SG.size + 1 := by rw [ByteArray.size_append, z2]; rfl
  have q3 : ¬ (9223372036854775807 < (TA ++ ⟨#[32]⟩ ++ SG ++ ⟨#[32]⟩ : ByteArray).size + (TB : ByteArray).size) := by rw [z3]; show ¬ (_ < TA.size + 1 + SG.size + 1 + TB.size); omega
  clear z3 z2 z1 z0
  have K0 := Lib.hid ((((Kept.refl w).alloc (.cells #[.int .i64 12, .int .i64 n] 41)).alloc (.cells #[.slice AE ne ce, .slice AT nt ct, .slice AI ni ci, .slice AD nd cd, .slice AM nmm cm] 26)).alloc (.cells #[.string ⟨#[]⟩, .int .i64 0, .bool false] 50))
  go_enter Tryz.func17, Tryz.ntmps17
  go_wp2_with (go_at_call 31; refine (HOS.out _).mono ?_; rintro e wq ⟨rfl, rfl⟩)
  obtain ⟨B1, B2, B3⟩ := (Kept.refl (((w.alloc (.cells #[.int .i64 12, .int .i64 n] 41)).alloc (.cells #[.slice AE ne ce, .slice AT nt ct, .slice AI ni ci, .slice AD nd cd, .slice AM nmm cm] 26)).alloc (.cells #[.string ⟨#[]⟩, .int .i64 0, .bool false] 50))).blk3
  have KK := K0.out
  generalize ((w.alloc (.cells #[.int .i64 12, .int .i64 n] 41)).alloc (.cells #[.slice AE ne ce, .slice AT nt ct, .slice AI ni ci, .slice AD nd cd, .slice AM nmm cm] 26)).alloc (.cells #[.string ⟨#[]⟩, .int .i64 0, .bool false] 50) = W at *
  have hbW := Nat.lt_of_lt_of_le hb KK.size
  have y00 := KW.cell hbW (KK.cell (p := ⟨b, _, none⟩) hb x00)
  have y01 := KW.cell hbW (KK.cell (p := ⟨b, _, none⟩) hb x01)
  have y02 := KW.cell hbW (KK.cell (p := ⟨b, _, none⟩) hb x02)
  have y10 := KW.cell hbW (KK.cell (p := ⟨b, _, none⟩) hb x10)
  have y11 := KW.cell hbW (KK.cell (p := ⟨b, _, none⟩) hb x11)
  have y12 := KW.cell hbW (KK.cell (p := ⟨b, _, none⟩) hb x12)
  refine wp_region_kept (by kernel_rfl) (by kernel_rfl) ?_
  repeat (go_big_quiet_step (first | (go_at_call 30; with_reducible exact KW.call (HWA.out _)) | (go_at_call 30; with_reducible exact KW.call (HWB.out _))))
  refine wpQuiet_nil ?_
  rintro w5 ⟨⟨wx, hx2⟩, hh⟩
  obtain rfl : w5 = wx := hh
  have C3 := B3.kept hx2
  have c3c := C3.cell
  have c3l := C3.lt
  have c3f := C3.frozen
  have KX := KK.trans hx2
  go_wp2_with fail
  generalize (TA ++ ⟨#[32]⟩ ++ SG ++ ⟨#[32]⟩ ++ TB : ByteArray) = TT at *
  have BW : Blk (((w5.setCell ⟨w.heap.size + 1 + 1, 0, none⟩ (.string TT)).setCell ⟨w.heap.size + 1 + 1, 1, none⟩ (.int .i64 4)).setCell ⟨w.heap.size + 1 + 1, 2, none⟩ (.bool false)) (w.heap.size + 1 + 1) 50 #[.string TT, .int .i64 4, .bool false] := ((C3.set_ 0 (.string TT)).set_ 1 (.int .i64 4)).set_ 2 (.bool false)
  have KF : Kept w (((w5.setCell ⟨w.heap.size + 1 + 1, 0, none⟩ (.string TT)).setCell ⟨w.heap.size + 1 + 1, 1, none⟩ (.int .i64 4)).setCell ⟨w.heap.size + 1 + 1, 2, none⟩ (.bool false)) := by
    repeat refine Kept.setCell ?_ (by simp only; omega) _
    exact KX
  generalize ((w5.setCell ⟨w.heap.size + 1 + 1, 0, none⟩ (.string TT)).setCell ⟨w.heap.size + 1 + 1, 1, none⟩ (.int .i64 4)).setCell ⟨w.heap.size + 1 + 1, 2, none⟩ (.bool false) = WW at *
  have bw := BW.cell
  refine bodyPost_ret (v := .tuple #[.agg #[.string TT, .int .i64 4, .bool false], .int .i64 0]) (by simp [results, Tryz.results17, go_sem, bw]) rfl ⟨rfl, KF⟩
set_option maxRecDepth 100000 in
set_option maxHeartbeats 16000000 in
theorem rend_op13  (P0 : ByteArray) (c0 : Int) (b0 : Bool) (P1 : ByteArray) (c1 : Int) (b1 : Bool) (b off cap : Nat) (hb : b < w.heap.size)
     (x00 : w.cell? ⟨b, off, none⟩ = some (.string P0)) (x01 : w.cell? ⟨b, off + 1, none⟩ = some (.int .i64 c0)) (x02 : w.cell? ⟨b, off + 2, none⟩ = some (.bool b0)) (hp0 : P0.size ≤ 18014398509481984) (x10 : w.cell? ⟨b, off + 3, none⟩ = some (.string P1)) (x11 : w.cell? ⟨b, off + 4, none⟩ = some (.int .i64 c1)) (x12 : w.cell? ⟨b, off + 5, none⟩ = some (.bool b1)) (hp1 : P1.size ≤ 18014398509481984) :
    Calls Tryz.prog 17 #[.agg #[.int .i64 13, .int .i64 n], .slice (some ⟨b, off, none⟩) 2 cap, .agg #[.slice AE ne ce, .slice AT nt ct, .slice AI ni ci, .slice AD nd cd, .slice AM nmm cm]] w fun e w' => e = .returned (.tuple #[.agg #[.string (withS ⟨P0, c0, b0⟩ 5 ++ ⟨#[32]⟩ ++ (opSg 13).1 ++ ⟨#[32]⟩ ++ withS ⟨P1, c1, b1⟩ 6), .int .i64 5, .bool false], .int .i64 0]) ∧ Kept w w' := by
  have HWA := Lib.hid (fun w1 => pwithin_any ⟨P0, c0, b0⟩ 5 hp0 w1)
  have HWB := Lib.hid (fun w1 => pwithin_any ⟨P1, c1, b1⟩ 6 hp1 w1)
  have hwa := withS_size ⟨P0, c0, b0⟩ 5
  have hwb := withS_size ⟨P1, c1, b1⟩ 6
  unfold pcV at HWA HWB
  dsimp only at HWA HWB hwa hwb
  have HOS := Lib.hid (fun w1 => opSign_any 13 w1)
  have hss : (opSg 13).1.size ≤ 3 := by decide
  rw [show (opSg 13).2 = 5 from rfl] at HOS
  generalize withS ⟨P0, c0, b0⟩ 5 = TA at *
  generalize withS ⟨P1, c1, b1⟩ 6 = TB at *
  generalize (opSg 13).1 = SG at *
  have z0 : (TA : ByteArray).size = TA.size := by rfl
  have q0 : ¬ (9223372036854775807 < (TA : ByteArray).size + (⟨#[32]⟩ : ByteArray).size) := by rw [z0]; show ¬ (_ < TA.size + 1); omega
  have z1 : (TA ++ ⟨#[32]⟩ : ByteArray).size = TA.size + 1 := by rw [ByteArray.size_append, z0]; rfl
  have q1 : ¬ (9223372036854775807 < (TA ++ ⟨#[32]⟩ : ByteArray).size + (SG : ByteArray).size) := by rw [z1]; show ¬ (_ < TA.size + 1 + SG.size); omega
  have z2 : (TA ++ ⟨#[32]⟩ ++ SG : ByteArray).size = TA.size + 1 + SG.size := by rw [ByteArray.size_append, z1]
  have q2 : ¬ (9223372036854775807 < (TA ++ ⟨#[32]⟩ ++ SG : ByteArray).size + (⟨#[32]⟩ : ByteArray).size) := by rw [z2]; show ¬ (_ < TA.size + 1 + SG.size + 1); omega
  have z3 : (TA ++ ⟨#[32]⟩ ++ SG ++ ⟨#[32]⟩ : ByteArray).size = TA.size + 1 + SG.size + 1 := by rw [ByteArray.size_append, z2]; rfl
  have q3 : ¬ (9223372036854775807 < (TA ++ ⟨#[32]⟩ ++ SG ++ ⟨#[32]⟩ : ByteArray).size + (TB : ByteArray).size) := by rw [z3]; show ¬ (_ < TA.size + 1 + SG.size + 1 + TB.size); omega
  clear z3 z2 z1 z0
  have K0 := Lib.hid ((((Kept.refl w).alloc (.cells #[.int .i64 13, .int .i64 n] 41)).alloc (.cells #[.slice AE ne ce, .slice AT nt ct, .slice AI ni ci, .slice AD nd cd, .slice AM nmm cm] 26)).alloc (.cells #[.string ⟨#[]⟩, .int .i64 0, .bool false] 50))
  go_enter Tryz.func17, Tryz.ntmps17
  go_wp2_with (go_at_call 31; refine (HOS.out _).mono ?_; rintro e wq ⟨rfl, rfl⟩)
  obtain ⟨B1, B2, B3⟩ := (Kept.refl (((w.alloc (.cells #[.int .i64 13, .int .i64 n] 41)).alloc (.cells #[.slice AE ne ce, .slice AT nt ct, .slice AI ni ci, .slice AD nd cd, .slice AM nmm cm] 26)).alloc (.cells #[.string ⟨#[]⟩, .int .i64 0, .bool false] 50))).blk3
  have KK := K0.out
  generalize ((w.alloc (.cells #[.int .i64 13, .int .i64 n] 41)).alloc (.cells #[.slice AE ne ce, .slice AT nt ct, .slice AI ni ci, .slice AD nd cd, .slice AM nmm cm] 26)).alloc (.cells #[.string ⟨#[]⟩, .int .i64 0, .bool false] 50) = W at *
  have hbW := Nat.lt_of_lt_of_le hb KK.size
  have y00 := KW.cell hbW (KK.cell (p := ⟨b, _, none⟩) hb x00)
  have y01 := KW.cell hbW (KK.cell (p := ⟨b, _, none⟩) hb x01)
  have y02 := KW.cell hbW (KK.cell (p := ⟨b, _, none⟩) hb x02)
  have y10 := KW.cell hbW (KK.cell (p := ⟨b, _, none⟩) hb x10)
  have y11 := KW.cell hbW (KK.cell (p := ⟨b, _, none⟩) hb x11)
  have y12 := KW.cell hbW (KK.cell (p := ⟨b, _, none⟩) hb x12)
  refine wp_region_kept (by kernel_rfl) (by kernel_rfl) ?_
  repeat (go_big_quiet_step (first | (go_at_call 30; with_reducible exact KW.call (HWA.out _)) | (go_at_call 30; with_reducible exact KW.call (HWB.out _))))
  refine wpQuiet_nil ?_
  rintro w5 ⟨⟨wx, hx2⟩, hh⟩
  obtain rfl : w5 = wx := hh
  have C3 := B3.kept hx2
  have c3c := C3.cell
  have c3l := C3.lt
  have c3f := C3.frozen
  have KX := KK.trans hx2
  go_wp2_with fail
  generalize (TA ++ ⟨#[32]⟩ ++ SG ++ ⟨#[32]⟩ ++ TB : ByteArray) = TT at *
  have BW : Blk (((w5.setCell ⟨w.heap.size + 1 + 1, 0, none⟩ (.string TT)).setCell ⟨w.heap.size + 1 + 1, 1, none⟩ (.int .i64 5)).setCell ⟨w.heap.size + 1 + 1, 2, none⟩ (.bool false)) (w.heap.size + 1 + 1) 50 #[.string TT, .int .i64 5, .bool false] := ((C3.set_ 0 (.string TT)).set_ 1 (.int .i64 5)).set_ 2 (.bool false)
  have KF : Kept w (((w5.setCell ⟨w.heap.size + 1 + 1, 0, none⟩ (.string TT)).setCell ⟨w.heap.size + 1 + 1, 1, none⟩ (.int .i64 5)).setCell ⟨w.heap.size + 1 + 1, 2, none⟩ (.bool false)) := by
    repeat refine Kept.setCell ?_ (by simp only; omega) _
    exact KX
  generalize ((w5.setCell ⟨w.heap.size + 1 + 1, 0, none⟩ (.string TT)).setCell ⟨w.heap.size + 1 + 1, 1, none⟩ (.int .i64 5)).setCell ⟨w.heap.size + 1 + 1, 2, none⟩ (.bool false) = WW at *
  have bw := BW.cell
  refine bodyPost_ret (v := .tuple #[.agg #[.string TT, .int .i64 5, .bool false], .int .i64 0]) (by simp [results, Tryz.results17, go_sem, bw]) rfl ⟨rfl, KF⟩
set_option maxRecDepth 100000 in
set_option maxHeartbeats 16000000 in
theorem rend_op19  (P0 : ByteArray) (c0 : Int) (b0 : Bool) (P1 : ByteArray) (c1 : Int) (b1 : Bool) (b off cap : Nat) (hb : b < w.heap.size)
     (x00 : w.cell? ⟨b, off, none⟩ = some (.string P0)) (x01 : w.cell? ⟨b, off + 1, none⟩ = some (.int .i64 c0)) (x02 : w.cell? ⟨b, off + 2, none⟩ = some (.bool b0)) (hp0 : P0.size ≤ 18014398509481984) (x10 : w.cell? ⟨b, off + 3, none⟩ = some (.string P1)) (x11 : w.cell? ⟨b, off + 4, none⟩ = some (.int .i64 c1)) (x12 : w.cell? ⟨b, off + 5, none⟩ = some (.bool b1)) (hp1 : P1.size ≤ 18014398509481984) :
    Calls Tryz.prog 17 #[.agg #[.int .i64 19, .int .i64 n], .slice (some ⟨b, off, none⟩) 2 cap, .agg #[.slice AE ne ce, .slice AT nt ct, .slice AI ni ci, .slice AD nd cd, .slice AM nmm cm]] w fun e w' => e = .returned (.tuple #[.agg #[.string (withS ⟨P0, c0, b0⟩ 4 ++ ⟨#[32]⟩ ++ (opSg 19).1 ++ ⟨#[32]⟩ ++ withS ⟨P1, c1, b1⟩ 4), .int .i64 3, .bool false], .int .i64 0]) ∧ Kept w w' := by
  have HWA := Lib.hid (fun w1 => pwithin_any ⟨P0, c0, b0⟩ 4 hp0 w1)
  have HWB := Lib.hid (fun w1 => pwithin_any ⟨P1, c1, b1⟩ 4 hp1 w1)
  have hwa := withS_size ⟨P0, c0, b0⟩ 4
  have hwb := withS_size ⟨P1, c1, b1⟩ 4
  unfold pcV at HWA HWB
  dsimp only at HWA HWB hwa hwb
  have HOS := Lib.hid (fun w1 => opSign_any 19 w1)
  have hss : (opSg 19).1.size ≤ 3 := by decide
  rw [show (opSg 19).2 = 3 from rfl] at HOS
  generalize withS ⟨P0, c0, b0⟩ 4 = TA at *
  generalize withS ⟨P1, c1, b1⟩ 4 = TB at *
  generalize (opSg 19).1 = SG at *
  have z0 : (TA : ByteArray).size = TA.size := by rfl
  have q0 : ¬ (9223372036854775807 < (TA : ByteArray).size + (⟨#[32]⟩ : ByteArray).size) := by rw [z0]; show ¬ (_ < TA.size + 1); omega
  have z1 : (TA ++ ⟨#[32]⟩ : ByteArray).size = TA.size + 1 := by rw [ByteArray.size_append, z0]; rfl
  have q1 : ¬ (9223372036854775807 < (TA ++ ⟨#[32]⟩ : ByteArray).size + (SG : ByteArray).size) := by rw [z1]; show ¬ (_ < TA.size + 1 + SG.size); omega
  have z2 : (TA ++ ⟨#[32]⟩ ++ SG : ByteArray).size = TA.size + 1 + SG.size := by rw [ByteArray.size_append, z1]
  have q2 : ¬ (9223372036854775807 < (TA ++ ⟨#[32]⟩ ++ SG : ByteArray).size + (⟨#[32]⟩ : ByteArray).size) := by rw [z2]; show ¬ (_ < TA.size + 1 + SG.size + 1); omega
  have z3 : (TA ++ ⟨#[32]⟩ ++ SG ++ ⟨#[32]⟩ : ByteArray).size = TA.size + 1 + SG.size + 1 := by rw [ByteArray.size_append, z2]; rfl
  have q3 : ¬ (9223372036854775807 < (TA ++ ⟨#[32]⟩ ++ SG ++ ⟨#[32]⟩ : ByteArray).size + (TB : ByteArray).size) := by rw [z3]; show ¬ (_ < TA.size + 1 + SG.size + 1 + TB.size); omega
  clear z3 z2 z1 z0
  have K0 := Lib.hid ((((Kept.refl w).alloc (.cells #[.int .i64 19, .int .i64 n] 41)).alloc (.cells #[.slice AE ne ce, .slice AT nt ct, .slice AI ni ci, .slice AD nd cd, .slice AM nmm cm] 26)).alloc (.cells #[.string ⟨#[]⟩, .int .i64 0, .bool false] 50))
  go_enter Tryz.func17, Tryz.ntmps17
  go_wp2_with (go_at_call 31; refine (HOS.out _).mono ?_; rintro e wq ⟨rfl, rfl⟩)
  obtain ⟨B1, B2, B3⟩ := (Kept.refl (((w.alloc (.cells #[.int .i64 19, .int .i64 n] 41)).alloc (.cells #[.slice AE ne ce, .slice AT nt ct, .slice AI ni ci, .slice AD nd cd, .slice AM nmm cm] 26)).alloc (.cells #[.string ⟨#[]⟩, .int .i64 0, .bool false] 50))).blk3
  have KK := K0.out
  generalize ((w.alloc (.cells #[.int .i64 19, .int .i64 n] 41)).alloc (.cells #[.slice AE ne ce, .slice AT nt ct, .slice AI ni ci, .slice AD nd cd, .slice AM nmm cm] 26)).alloc (.cells #[.string ⟨#[]⟩, .int .i64 0, .bool false] 50) = W at *
  have hbW := Nat.lt_of_lt_of_le hb KK.size
  have y00 := KW.cell hbW (KK.cell (p := ⟨b, _, none⟩) hb x00)
  have y01 := KW.cell hbW (KK.cell (p := ⟨b, _, none⟩) hb x01)
  have y02 := KW.cell hbW (KK.cell (p := ⟨b, _, none⟩) hb x02)
  have y10 := KW.cell hbW (KK.cell (p := ⟨b, _, none⟩) hb x10)
  have y11 := KW.cell hbW (KK.cell (p := ⟨b, _, none⟩) hb x11)
  have y12 := KW.cell hbW (KK.cell (p := ⟨b, _, none⟩) hb x12)
  refine wp_region_kept (by kernel_rfl) (by kernel_rfl) ?_
  repeat (go_big_quiet_step (first | (go_at_call 30; with_reducible exact KW.call (HWA.out _)) | (go_at_call 30; with_reducible exact KW.call (HWB.out _))))
  refine wpQuiet_nil ?_
  rintro w5 ⟨⟨wx, hx2⟩, hh⟩
  obtain rfl : w5 = wx := hh
  have C3 := B3.kept hx2
  have c3c := C3.cell
  have c3l := C3.lt
  have c3f := C3.frozen
  have KX := KK.trans hx2
  go_wp2_with fail
  generalize (TA ++ ⟨#[32]⟩ ++ SG ++ ⟨#[32]⟩ ++ TB : ByteArray) = TT at *
  have BW : Blk (((w5.setCell ⟨w.heap.size + 1 + 1, 0, none⟩ (.string TT)).setCell ⟨w.heap.size + 1 + 1, 1, none⟩ (.int .i64 3)).setCell ⟨w.heap.size + 1 + 1, 2, none⟩ (.bool false)) (w.heap.size + 1 + 1) 50 #[.string TT, .int .i64 3, .bool false] := ((C3.set_ 0 (.string TT)).set_ 1 (.int .i64 3)).set_ 2 (.bool false)
  have KF : Kept w (((w5.setCell ⟨w.heap.size + 1 + 1, 0, none⟩ (.string TT)).setCell ⟨w.heap.size + 1 + 1, 1, none⟩ (.int .i64 3)).setCell ⟨w.heap.size + 1 + 1, 2, none⟩ (.bool false)) := by
    repeat refine Kept.setCell ?_ (by simp only; omega) _
    exact KX
  generalize ((w5.setCell ⟨w.heap.size + 1 + 1, 0, none⟩ (.string TT)).setCell ⟨w.heap.size + 1 + 1, 1, none⟩ (.int .i64 3)).setCell ⟨w.heap.size + 1 + 1, 2, none⟩ (.bool false) = WW at *
  have bw := BW.cell
  refine bodyPost_ret (v := .tuple #[.agg #[.string TT, .int .i64 3, .bool false], .int .i64 0]) (by simp [results, Tryz.results17, go_sem, bw]) rfl ⟨rfl, KF⟩
set_option maxRecDepth 100000 in
set_option maxHeartbeats 16000000 in
theorem rend_op20  (P0 : ByteArray) (c0 : Int) (b0 : Bool) (P1 : ByteArray) (c1 : Int) (b1 : Bool) (b off cap : Nat) (hb : b < w.heap.size)
     (x00 : w.cell? ⟨b, off, none⟩ = some (.string P0)) (x01 : w.cell? ⟨b, off + 1, none⟩ = some (.int .i64 c0)) (x02 : w.cell? ⟨b, off + 2, none⟩ = some (.bool b0)) (hp0 : P0.size ≤ 18014398509481984) (x10 : w.cell? ⟨b, off + 3, none⟩ = some (.string P1)) (x11 : w.cell? ⟨b, off + 4, none⟩ = some (.int .i64 c1)) (x12 : w.cell? ⟨b, off + 5, none⟩ = some (.bool b1)) (hp1 : P1.size ≤ 18014398509481984) :
    Calls Tryz.prog 17 #[.agg #[.int .i64 20, .int .i64 n], .slice (some ⟨b, off, none⟩) 2 cap, .agg #[.slice AE ne ce, .slice AT nt ct, .slice AI ni ci, .slice AD nd cd, .slice AM nmm cm]] w fun e w' => e = .returned (.tuple #[.agg #[.string (withS ⟨P0, c0, b0⟩ 4 ++ ⟨#[32]⟩ ++ (opSg 20).1 ++ ⟨#[32]⟩ ++ withS ⟨P1, c1, b1⟩ 4), .int .i64 3, .bool false], .int .i64 0]) ∧ Kept w w' := by
  have HWA := Lib.hid (fun w1 => pwithin_any ⟨P0, c0, b0⟩ 4 hp0 w1)
  have HWB := Lib.hid (fun w1 => pwithin_any ⟨P1, c1, b1⟩ 4 hp1 w1)
  have hwa := withS_size ⟨P0, c0, b0⟩ 4
  have hwb := withS_size ⟨P1, c1, b1⟩ 4
  unfold pcV at HWA HWB
  dsimp only at HWA HWB hwa hwb
  have HOS := Lib.hid (fun w1 => opSign_any 20 w1)
  have hss : (opSg 20).1.size ≤ 3 := by decide
  rw [show (opSg 20).2 = 3 from rfl] at HOS
  generalize withS ⟨P0, c0, b0⟩ 4 = TA at *
  generalize withS ⟨P1, c1, b1⟩ 4 = TB at *
  generalize (opSg 20).1 = SG at *
  have z0 : (TA : ByteArray).size = TA.size := by rfl
  have q0 : ¬ (9223372036854775807 < (TA : ByteArray).size + (⟨#[32]⟩ : ByteArray).size) := by rw [z0]; show ¬ (_ < TA.size + 1); omega
  have z1 : (TA ++ ⟨#[32]⟩ : ByteArray).size = TA.size + 1 := by rw [ByteArray.size_append, z0]; rfl
  have q1 : ¬ (9223372036854775807 < (TA ++ ⟨#[32]⟩ : ByteArray).size + (SG : ByteArray).size) := by rw [z1]; show ¬ (_ < TA.size + 1 + SG.size); omega
  have z2 : (TA ++ ⟨#[32]⟩ ++ SG : ByteArray).size = TA.size + 1 + SG.size := by rw [ByteArray.size_append, z1]
  have q2 : ¬ (9223372036854775807 < (TA ++ ⟨#[32]⟩ ++ SG : ByteArray).size + (⟨#[32]⟩ : ByteArray).size) := by rw [z2]; show ¬ (_ < TA.size + 1 + SG.size + 1); omega
  have z3 : (TA ++ ⟨#[32]⟩ ++ SG ++ ⟨#[32]⟩ : ByteArray).size = TA.size + 1 + SG.size + 1 := by rw [ByteArray.size_append, z2]; rfl
  have q3 : ¬ (9223372036854775807 < (TA ++ ⟨#[32]⟩ ++ SG ++ ⟨#[32]⟩ : ByteArray).size + (TB : ByteArray).size) := by rw [z3]; show ¬ (_ < TA.size + 1 + SG.size + 1 + TB.size); omega
  clear z3 z2 z1 z0
  have K0 := Lib.hid ((((Kept.refl w).alloc (.cells #[.int .i64 20, .int .i64 n] 41)).alloc (.cells #[.slice AE ne ce, .slice AT nt ct, .slice AI ni ci, .slice AD nd cd, .slice AM nmm cm] 26)).alloc (.cells #[.string ⟨#[]⟩, .int .i64 0, .bool false] 50))
  go_enter Tryz.func17, Tryz.ntmps17
  go_wp2_with (go_at_call 31; refine (HOS.out _).mono ?_; rintro e wq ⟨rfl, rfl⟩)
  obtain ⟨B1, B2, B3⟩ := (Kept.refl (((w.alloc (.cells #[.int .i64 20, .int .i64 n] 41)).alloc (.cells #[.slice AE ne ce, .slice AT nt ct, .slice AI ni ci, .slice AD nd cd, .slice AM nmm cm] 26)).alloc (.cells #[.string ⟨#[]⟩, .int .i64 0, .bool false] 50))).blk3
  have KK := K0.out
  generalize ((w.alloc (.cells #[.int .i64 20, .int .i64 n] 41)).alloc (.cells #[.slice AE ne ce, .slice AT nt ct, .slice AI ni ci, .slice AD nd cd, .slice AM nmm cm] 26)).alloc (.cells #[.string ⟨#[]⟩, .int .i64 0, .bool false] 50) = W at *
  have hbW := Nat.lt_of_lt_of_le hb KK.size
  have y00 := KW.cell hbW (KK.cell (p := ⟨b, _, none⟩) hb x00)
  have y01 := KW.cell hbW (KK.cell (p := ⟨b, _, none⟩) hb x01)
  have y02 := KW.cell hbW (KK.cell (p := ⟨b, _, none⟩) hb x02)
  have y10 := KW.cell hbW (KK.cell (p := ⟨b, _, none⟩) hb x10)
  have y11 := KW.cell hbW (KK.cell (p := ⟨b, _, none⟩) hb x11)
  have y12 := KW.cell hbW (KK.cell (p := ⟨b, _, none⟩) hb x12)
  refine wp_region_kept (by kernel_rfl) (by kernel_rfl) ?_
  repeat (go_big_quiet_step (first | (go_at_call 30; with_reducible exact KW.call (HWA.out _)) | (go_at_call 30; with_reducible exact KW.call (HWB.out _))))
  refine wpQuiet_nil ?_
  rintro w5 ⟨⟨wx, hx2⟩, hh⟩
  obtain rfl : w5 = wx := hh
  have C3 := B3.kept hx2
  have c3c := C3.cell
  have c3l := C3.lt
  have c3f := C3.frozen
  have KX := KK.trans hx2
  go_wp2_with fail
  generalize (TA ++ ⟨#[32]⟩ ++ SG ++ ⟨#[32]⟩ ++ TB : ByteArray) = TT at *
  have BW : Blk (((w5.setCell ⟨w.heap.size + 1 + 1, 0, none⟩ (.string TT)).setCell ⟨w.heap.size + 1 + 1, 1, none⟩ (.int .i64 3)).setCell ⟨w.heap.size + 1 + 1, 2, none⟩ (.bool false)) (w.heap.size + 1 + 1) 50 #[.string TT, .int .i64 3, .bool false] := ((C3.set_ 0 (.string TT)).set_ 1 (.int .i64 3)).set_ 2 (.bool false)
  have KF : Kept w (((w5.setCell ⟨w.heap.size + 1 + 1, 0, none⟩ (.string TT)).setCell ⟨w.heap.size + 1 + 1, 1, none⟩ (.int .i64 3)).setCell ⟨w.heap.size + 1 + 1, 2, none⟩ (.bool false)) := by
    repeat refine Kept.setCell ?_ (by simp only; omega) _
    exact KX
  generalize ((w5.setCell ⟨w.heap.size + 1 + 1, 0, none⟩ (.string TT)).setCell ⟨w.heap.size + 1 + 1, 1, none⟩ (.int .i64 3)).setCell ⟨w.heap.size + 1 + 1, 2, none⟩ (.bool false) = WW at *
  have bw := BW.cell
  refine bodyPost_ret (v := .tuple #[.agg #[.string TT, .int .i64 3, .bool false], .int .i64 0]) (by simp [results, Tryz.results17, go_sem, bw]) rfl ⟨rfl, KF⟩
set_option maxRecDepth 100000 in
set_option maxHeartbeats 16000000 in
theorem rend_op21  (P0 : ByteArray) (c0 : Int) (b0 : Bool) (P1 : ByteArray) (c1 : Int) (b1 : Bool) (b off cap : Nat) (hb : b < w.heap.size)
     (x00 : w.cell? ⟨b, off, none⟩ = some (.string P0)) (x01 : w.cell? ⟨b, off + 1, none⟩ = some (.int .i64 c0)) (x02 : w.cell? ⟨b, off + 2, none⟩ = some (.bool b0)) (hp0 : P0.size ≤ 18014398509481984) (x10 : w.cell? ⟨b, off + 3, none⟩ = some (.string P1)) (x11 : w.cell? ⟨b, off + 4, none⟩ = some (.int .i64 c1)) (x12 : w.cell? ⟨b, off + 5, none⟩ = some (.bool b1)) (hp1 : P1.size ≤ 18014398509481984) :
    Calls Tryz.prog 17 #[.agg #[.int .i64 21, .int .i64 n], .slice (some ⟨b, off, none⟩) 2 cap, .agg #[.slice AE ne ce, .slice AT nt ct, .slice AI ni ci, .slice AD nd cd, .slice AM nmm cm]] w fun e w' => e = .returned (.tuple #[.agg #[.string (withS ⟨P0, c0, b0⟩ 4 ++ ⟨#[32]⟩ ++ (opSg 21).1 ++ ⟨#[32]⟩ ++ withS ⟨P1, c1, b1⟩ 4), .int .i64 3, .bool false], .int .i64 0]) ∧ Kept w w' := by
  have HWA := Lib.hid (fun w1 => pwithin_any ⟨P0, c0, b0⟩ 4 hp0 w1)
  have HWB := Lib.hid (fun w1 => pwithin_any ⟨P1, c1, b1⟩ 4 hp1 w1)
  have hwa := withS_size ⟨P0, c0, b0⟩ 4
  have hwb := withS_size ⟨P1, c1, b1⟩ 4
  unfold pcV at HWA HWB
  dsimp only at HWA HWB hwa hwb
  have HOS := Lib.hid (fun w1 => opSign_any 21 w1)
  have hss : (opSg 21).1.size ≤ 3 := by decide
  rw [show (opSg 21).2 = 3 from rfl] at HOS
  generalize withS ⟨P0, c0, b0⟩ 4 = TA at *
  generalize withS ⟨P1, c1, b1⟩ 4 = TB at *
  generalize (opSg 21).1 = SG at *
  have z0 : (TA : ByteArray).size = TA.size := by rfl
  have q0 : ¬ (9223372036854775807 < (TA : ByteArray).size + (⟨#[32]⟩ : ByteArray).size) := by rw [z0]; show ¬ (_ < TA.size + 1); omega
  have z1 : (TA ++ ⟨#[32]⟩ : ByteArray).size = TA.size + 1 := by rw [ByteArray.size_append, z0]; rfl
  have q1 : ¬ (9223372036854775807 < (TA ++ ⟨#[32]⟩ : ByteArray).size + (SG : ByteArray).size) := by rw [z1]; show ¬ (_ < TA.size + 1 + SG.size); omega
  have z2 : (TA ++ ⟨#[32]⟩ ++ SG : ByteArray).size = TA.size + 1 + SG.size := by rw [ByteArray.size_append, z1]
  have q2 : ¬ (9223372036854775807 < (TA ++ ⟨#[32]⟩ ++ SG : ByteArray).size + (⟨#[32]⟩ : ByteArray).size) := by rw [z2]; show ¬ (_ < TA.size + 1 + SG.size + 1); omega
  have z3 : (TA ++ ⟨#[32]⟩ ++ SG ++ ⟨#[32]⟩ : ByteArray).size = TA.size + 1 + SG.size + 1 := by rw [ByteArray.size_append, z2]; rfl
  have q3 : ¬ (9223372036854775807 < (TA ++ ⟨#[32]⟩ ++ SG ++ ⟨#[32]⟩ : ByteArray).size + (TB : ByteArray).size) := by rw [z3]; show ¬ (_ < TA.size + 1 + SG.size + 1 + TB.size); omega
  clear z3 z2 z1 z0
  have K0 := Lib.hid ((((Kept.refl w).alloc (.cells #[.int .i64 21, .int .i64 n] 41)).alloc (.cells #[.slice AE ne ce, .slice AT nt ct, .slice AI ni ci, .slice AD nd cd, .slice AM nmm cm] 26)).alloc (.cells #[.string ⟨#[]⟩, .int .i64 0, .bool false] 50))
  go_enter Tryz.func17, Tryz.ntmps17
  go_wp2_with (go_at_call 31; refine (HOS.out _).mono ?_; rintro e wq ⟨rfl, rfl⟩)
  obtain ⟨B1, B2, B3⟩ := (Kept.refl (((w.alloc (.cells #[.int .i64 21, .int .i64 n] 41)).alloc (.cells #[.slice AE ne ce, .slice AT nt ct, .slice AI ni ci, .slice AD nd cd, .slice AM nmm cm] 26)).alloc (.cells #[.string ⟨#[]⟩, .int .i64 0, .bool false] 50))).blk3
  have KK := K0.out
  generalize ((w.alloc (.cells #[.int .i64 21, .int .i64 n] 41)).alloc (.cells #[.slice AE ne ce, .slice AT nt ct, .slice AI ni ci, .slice AD nd cd, .slice AM nmm cm] 26)).alloc (.cells #[.string ⟨#[]⟩, .int .i64 0, .bool false] 50) = W at *
  have hbW := Nat.lt_of_lt_of_le hb KK.size
  have y00 := KW.cell hbW (KK.cell (p := ⟨b, _, none⟩) hb x00)
  have y01 := KW.cell hbW (KK.cell (p := ⟨b, _, none⟩) hb x01)
  have y02 := KW.cell hbW (KK.cell (p := ⟨b, _, none⟩) hb x02)
  have y10 := KW.cell hbW (KK.cell (p := ⟨b, _, none⟩) hb x10)
  have y11 := KW.cell hbW (KK.cell (p := ⟨b, _, none⟩) hb x11)
  have y12 := KW.cell hbW (KK.cell (p := ⟨b, _, none⟩) hb x12)
  refine wp_region_kept (by kernel_rfl) (by kernel_rfl) ?_
  repeat (go_big_quiet_step (first | (go_at_call 30; with_reducible exact KW.call (HWA.out _)) | (go_at_call 30; with_reducible exact KW.call (HWB.out _))))
  refine wpQuiet_nil ?_
  rintro w5 ⟨⟨wx, hx2⟩, hh⟩
  obtain rfl : w5 = wx := hh
  have C3 := B3.kept hx2
  have c3c := C3.cell
  have c3l := C3.lt
  have c3f := C3.frozen
  have KX := KK.trans hx2
  go_wp2_with fail
  generalize (TA ++ ⟨#[32]⟩ ++ SG ++ ⟨#[32]⟩ ++ TB : ByteArray) = TT at *
  have BW : Blk (((w5.setCell ⟨w.heap.size + 1 + 1, 0, none⟩ (.string TT)).setCell ⟨w.heap.size + 1 + 1, 1, none⟩ (.int .i64 3)).setCell ⟨w.heap.size + 1 + 1, 2, none⟩ (.bool false)) (w.heap.size + 1 + 1) 50 #[.string TT, .int .i64 3, .bool false] := ((C3.set_ 0 (.string TT)).set_ 1 (.int .i64 3)).set_ 2 (.bool false)
  have KF : Kept w (((w5.setCell ⟨w.heap.size + 1 + 1, 0, none⟩ (.string TT)).setCell ⟨w.heap.size + 1 + 1, 1, none⟩ (.int .i64 3)).setCell ⟨w.heap.size + 1 + 1, 2, none⟩ (.bool false)) := by
    repeat refine Kept.setCell ?_ (by simp only; omega) _
    exact KX
  generalize ((w5.setCell ⟨w.heap.size + 1 + 1, 0, none⟩ (.string TT)).setCell ⟨w.heap.size + 1 + 1, 1, none⟩ (.int .i64 3)).setCell ⟨w.heap.size + 1 + 1, 2, none⟩ (.bool false) = WW at *
  have bw := BW.cell
  refine bodyPost_ret (v := .tuple #[.agg #[.string TT, .int .i64 3, .bool false], .int .i64 0]) (by simp [results, Tryz.results17, go_sem, bw]) rfl ⟨rfl, KF⟩
set_option maxRecDepth 100000 in
set_option maxHeartbeats 16000000 in
theorem rend_op22  (P0 : ByteArray) (c0 : Int) (b0 : Bool) (P1 : ByteArray) (c1 : Int) (b1 : Bool) (b off cap : Nat) (hb : b < w.heap.size)
     (x00 : w.cell? ⟨b, off, none⟩ = some (.string P0)) (x01 : w.cell? ⟨b, off + 1, none⟩ = some (.int .i64 c0)) (x02 : w.cell? ⟨b, off + 2, none⟩ = some (.bool b0)) (hp0 : P0.size ≤ 18014398509481984) (x10 : w.cell? ⟨b, off + 3, none⟩ = some (.string P1)) (x11 : w.cell? ⟨b, off + 4, none⟩ = some (.int .i64 c1)) (x12 : w.cell? ⟨b, off + 5, none⟩ = some (.bool b1)) (hp1 : P1.size ≤ 18014398509481984) :
    Calls Tryz.prog 17 #[.agg #[.int .i64 22, .int .i64 n], .slice (some ⟨b, off, none⟩) 2 cap, .agg #[.slice AE ne ce, .slice AT nt ct, .slice AI ni ci, .slice AD nd cd, .slice AM nmm cm]] w fun e w' => e = .returned (.tuple #[.agg #[.string (withS ⟨P0, c0, b0⟩ 4 ++ ⟨#[32]⟩ ++ (opSg 22).1 ++ ⟨#[32]⟩ ++ withS ⟨P1, c1, b1⟩ 4), .int .i64 3, .bool false], .int .i64 0]) ∧ Kept w w' := by
  have HWA := Lib.hid (fun w1 => pwithin_any ⟨P0, c0, b0⟩ 4 hp0 w1)
  have HWB := Lib.hid (fun w1 => pwithin_any ⟨P1, c1, b1⟩ 4 hp1 w1)
  have hwa := withS_size ⟨P0, c0, b0⟩ 4
  have hwb := withS_size ⟨P1, c1, b1⟩ 4
  unfold pcV at HWA HWB
  dsimp only at HWA HWB hwa hwb
  have HOS := Lib.hid (fun w1 => opSign_any 22 w1)
  have hss : (opSg 22).1.size ≤ 3 := by decide
  rw [show (opSg 22).2 = 3 from rfl] at HOS
  generalize withS ⟨P0, c0, b0⟩ 4 = TA at *
  generalize withS ⟨P1, c1, b1⟩ 4 = TB at *
  generalize (opSg 22).1 = SG at *
  have z0 : (TA : ByteArray).size = TA.size := by rfl
  have q0 : ¬ (9223372036854775807 < (TA : ByteArray).size + (⟨#[32]⟩ : ByteArray).size) := by rw [z0]; show ¬ (_ < TA.size + 1); omega
  have z1 : (TA ++ ⟨#[32]⟩ : ByteArray).size = TA.size + 1 := by rw [ByteArray.size_append, z0]; rfl
  have q1 : ¬ (9223372036854775807 < (TA ++ ⟨#[32]⟩ : ByteArray).size + (SG : ByteArray).size) := by rw [z1]; show ¬ (_ < TA.size + 1 + SG.size); omega
  have z2 : (TA ++ ⟨#[32]⟩ ++ SG : ByteArray).size = TA.size + 1 + SG.size := by rw [ByteArray.size_append, z1]
  have q2 : ¬ (9223372036854775807 < (TA ++ ⟨#[32]⟩ ++ SG : ByteArray).size + (⟨#[32]⟩ : ByteArray).size) := by rw [z2]; show ¬ (_ < TA.size + 1 + SG.size + 1); omega
  have z3 : (TA ++ ⟨#[32]⟩ ++ SG ++ ⟨#[32]⟩ : ByteArray).size = TA.size + 1 + SG.size + 1 := by rw [ByteArray.size_append, z2]; rfl
  have q3 : ¬ (9223372036854775807 < (TA ++ ⟨#[32]⟩ ++ SG ++ ⟨#[32]⟩ : ByteArray).size + (TB : ByteArray).size) := by rw [z3]; show ¬ (_ < TA.size + 1 + SG.size + 1 + TB.size); omega
  clear z3 z2 z1 z0
  have K0 := Lib.hid ((((Kept.refl w).alloc (.cells #[.int .i64 22, .int .i64 n] 41)).alloc (.cells #[.slice AE ne ce, .slice AT nt ct, .slice AI ni ci, .slice AD nd cd, .slice AM nmm cm] 26)).alloc (.cells #[.string ⟨#[]⟩, .int .i64 0, .bool false] 50))
  go_enter Tryz.func17, Tryz.ntmps17
  go_wp2_with (go_at_call 31; refine (HOS.out _).mono ?_; rintro e wq ⟨rfl, rfl⟩)
  obtain ⟨B1, B2, B3⟩ := (Kept.refl (((w.alloc (.cells #[.int .i64 22, .int .i64 n] 41)).alloc (.cells #[.slice AE ne ce, .slice AT nt ct, .slice AI ni ci, .slice AD nd cd, .slice AM nmm cm] 26)).alloc (.cells #[.string ⟨#[]⟩, .int .i64 0, .bool false] 50))).blk3
  have KK := K0.out
  generalize ((w.alloc (.cells #[.int .i64 22, .int .i64 n] 41)).alloc (.cells #[.slice AE ne ce, .slice AT nt ct, .slice AI ni ci, .slice AD nd cd, .slice AM nmm cm] 26)).alloc (.cells #[.string ⟨#[]⟩, .int .i64 0, .bool false] 50) = W at *
  have hbW := Nat.lt_of_lt_of_le hb KK.size
  have y00 := KW.cell hbW (KK.cell (p := ⟨b, _, none⟩) hb x00)
  have y01 := KW.cell hbW (KK.cell (p := ⟨b, _, none⟩) hb x01)
  have y02 := KW.cell hbW (KK.cell (p := ⟨b, _, none⟩) hb x02)
  have y10 := KW.cell hbW (KK.cell (p := ⟨b, _, none⟩) hb x10)
  have y11 := KW.cell hbW (KK.cell (p := ⟨b, _, none⟩) hb x11)
  have y12 := KW.cell hbW (KK.cell (p := ⟨b, _, none⟩) hb x12)
  refine wp_region_kept (by kernel_rfl) (by kernel_rfl) ?_
  repeat (go_big_quiet_step (first | (go_at_call 30; with_reducible exact KW.call (HWA.out _)) | (go_at_call 30; with_reducible exact KW.call (HWB.out _))))
  refine wpQuiet_nil ?_
  rintro w5 ⟨⟨wx, hx2⟩, hh⟩
  obtain rfl : w5 = wx := hh
  have C3 := B3.kept hx2
  have c3c := C3.cell
  have c3l := C3.lt
  have c3f := C3.frozen
  have KX := KK.trans hx2
  go_wp2_with fail
  generalize (TA ++ ⟨#[32]⟩ ++ SG ++ ⟨#[32]⟩ ++ TB : ByteArray) = TT at *
  have BW : Blk (((w5.setCell ⟨w.heap.size + 1 + 1, 0, none⟩ (.string TT)).setCell ⟨w.heap.size + 1 + 1, 1, none⟩ (.int .i64 3)).setCell ⟨w.heap.size + 1 + 1, 2, none⟩ (.bool false)) (w.heap.size + 1 + 1) 50 #[.string TT, .int .i64 3, .bool false] := ((C3.set_ 0 (.string TT)).set_ 1 (.int .i64 3)).set_ 2 (.bool false)
  have KF : Kept w (((w5.setCell ⟨w.heap.size + 1 + 1, 0, none⟩ (.string TT)).setCell ⟨w.heap.size + 1 + 1, 1, none⟩ (.int .i64 3)).setCell ⟨w.heap.size + 1 + 1, 2, none⟩ (.bool false)) := by
    repeat refine Kept.setCell ?_ (by simp only; omega) _
    exact KX
  generalize ((w5.setCell ⟨w.heap.size + 1 + 1, 0, none⟩ (.string TT)).setCell ⟨w.heap.size + 1 + 1, 1, none⟩ (.int .i64 3)).setCell ⟨w.heap.size + 1 + 1, 2, none⟩ (.bool false) = WW at *
  have bw := BW.cell
  refine bodyPost_ret (v := .tuple #[.agg #[.string TT, .int .i64 3, .bool false], .int .i64 0]) (by simp [results, Tryz.results17, go_sem, bw]) rfl ⟨rfl, KF⟩
set_option maxRecDepth 100000 in
set_option maxHeartbeats 16000000 in
theorem rend_op23  (P0 : ByteArray) (c0 : Int) (b0 : Bool) (P1 : ByteArray) (c1 : Int) (b1 : Bool) (b off cap : Nat) (hb : b < w.heap.size)
     (x00 : w.cell? ⟨b, off, none⟩ = some (.string P0)) (x01 : w.cell? ⟨b, off + 1, none⟩ = some (.int .i64 c0)) (x02 : w.cell? ⟨b, off + 2, none⟩ = some (.bool b0)) (hp0 : P0.size ≤ 18014398509481984) (x10 : w.cell? ⟨b, off + 3, none⟩ = some (.string P1)) (x11 : w.cell? ⟨b, off + 4, none⟩ = some (.int .i64 c1)) (x12 : w.cell? ⟨b, off + 5, none⟩ = some (.bool b1)) (hp1 : P1.size ≤ 18014398509481984) :
    Calls Tryz.prog 17 #[.agg #[.int .i64 23, .int .i64 n], .slice (some ⟨b, off, none⟩) 2 cap, .agg #[.slice AE ne ce, .slice AT nt ct, .slice AI ni ci, .slice AD nd cd, .slice AM nmm cm]] w fun e w' => e = .returned (.tuple #[.agg #[.string (withS ⟨P0, c0, b0⟩ 2 ++ ⟨#[32]⟩ ++ (opSg 23).1 ++ ⟨#[32]⟩ ++ withS ⟨P1, c1, b1⟩ 3), .int .i64 2, .bool false], .int .i64 0]) ∧ Kept w w' := by
  have HWA := Lib.hid (fun w1 => pwithin_any ⟨P0, c0, b0⟩ 2 hp0 w1)
  have HWB := Lib.hid (fun w1 => pwithin_any ⟨P1, c1, b1⟩ 3 hp1 w1)
  have hwa := withS_size ⟨P0, c0, b0⟩ 2
  have hwb := withS_size ⟨P1, c1, b1⟩ 3
  unfold pcV at HWA HWB
  dsimp only at HWA HWB hwa hwb
  have HOS := Lib.hid (fun w1 => opSign_any 23 w1)
  have hss : (opSg 23).1.size ≤ 3 := by decide
  rw [show (opSg 23).2 = 2 from rfl] at HOS
  generalize withS ⟨P0, c0, b0⟩ 2 = TA at *
  generalize withS ⟨P1, c1, b1⟩ 3 = TB at *
  generalize (opSg 23).1 = SG at *
  have z0 : (TA : ByteArray).size = TA.size := by rfl
  have q0 : ¬ (9223372036854775807 < (TA : ByteArray).size + (⟨#[32]⟩ : ByteArray).size) := by rw [z0]; show ¬ (_ < TA.size + 1); omega
  have z1 : (TA ++ ⟨#[32]⟩ : ByteArray).size = TA.size + 1 := by rw [ByteArray.size_append, z0]; rfl
  have q1 : ¬ (9223372036854775807 < (TA ++ ⟨#[32]⟩ : ByteArray).size + (SG : ByteArray).size) := by rw [z1]; show ¬ (_ < TA.size + 1 + SG.size); omega
  have z2 : (TA ++ ⟨#[32]⟩ ++ SG : ByteArray).size = TA.size + 1 + SG.size := by rw [ByteArray.size_append, z1]
  have q2 : ¬ (9223372036854775807 < (TA ++ ⟨#[32]⟩ ++ SG : ByteArray).size + (⟨#[32]⟩ : ByteArray).size) := by rw [z2]; show ¬ (_ < TA.size + 1 + SG.size + 1); omega
  have z3 : (TA ++ ⟨#[32]⟩ ++ SG ++ ⟨#[32]⟩ : ByteArray).size = TA.size + 1 + SG.size + 1 := by rw [ByteArray.size_append, z2]; rfl
  have q3 : ¬ (9223372036854775807 < (TA ++ ⟨#[32]⟩ ++ SG ++ ⟨#[32]⟩ : ByteArray).size + (TB : ByteArray).size) := by rw [z3]; show ¬ (_ < TA.size + 1 + SG.size + 1 + TB.size); omega
  clear z3 z2 z1 z0
  have K0 := Lib.hid ((((Kept.refl w).alloc (.cells #[.int .i64 23, .int .i64 n] 41)).alloc (.cells #[.slice AE ne ce, .slice AT nt ct, .slice AI ni ci, .slice AD nd cd, .slice AM nmm cm] 26)).alloc (.cells #[.string ⟨#[]⟩, .int .i64 0, .bool false] 50))
  go_enter Tryz.func17, Tryz.ntmps17
  go_wp2_with (go_at_call 31; refine (HOS.out _).mono ?_; rintro e wq ⟨rfl, rfl⟩)
  obtain ⟨B1, B2, B3⟩ := (Kept.refl (((w.alloc (.cells #[.int .i64 23, .int .i64 n] 41)).alloc (.cells #[.slice AE ne ce, .slice AT nt ct, .slice AI ni ci, .slice AD nd cd, .slice AM nmm cm] 26)).alloc (.cells #[.string ⟨#[]⟩, .int .i64 0, .bool false] 50))).blk3
  have KK := K0.out
  generalize ((w.alloc (.cells #[.int .i64 23, .int .i64 n] 41)).alloc (.cells #[.slice AE ne ce, .slice AT nt ct, .slice AI ni ci, .slice AD nd cd, .slice AM nmm cm] 26)).alloc (.cells #[.string ⟨#[]⟩, .int .i64 0, .bool false] 50) = W at *
  have hbW := Nat.lt_of_lt_of_le hb KK.size
  have y00 := KW.cell hbW (KK.cell (p := ⟨b, _, none⟩) hb x00)
  have y01 := KW.cell hbW (KK.cell (p := ⟨b, _, none⟩) hb x01)
  have y02 := KW.cell hbW (KK.cell (p := ⟨b, _, none⟩) hb x02)
  have y10 := KW.cell hbW (KK.cell (p := ⟨b, _, none⟩) hb x10)
  have y11 := KW.cell hbW (KK.cell (p := ⟨b, _, none⟩) hb x11)
  have y12 := KW.cell hbW (KK.cell (p := ⟨b, _, none⟩) hb x12)
  refine wp_region_kept (by kernel_rfl) (by kernel_rfl) ?_
  repeat (go_big_quiet_step (first | (go_at_call 30; with_reducible exact KW.call (HWA.out _)) | (go_at_call 30; with_reducible exact KW.call (HWB.out _))))
  refine wpQuiet_nil ?_
  rintro w5 ⟨⟨wx, hx2⟩, hh⟩
  obtain rfl : w5 = wx := hh
  have C3 := B3.kept hx2
  have c3c := C3.cell
  have c3l := C3.lt
  have c3f := C3.frozen
  have KX := KK.trans hx2
  go_wp2_with fail
  generalize (TA ++ ⟨#[32]⟩ ++ SG ++ ⟨#[32]⟩ ++ TB : ByteArray) = TT at *
  have BW : Blk (((w5.setCell ⟨w.heap.size + 1 + 1, 0, none⟩ (.string TT)).setCell ⟨w.heap.size + 1 + 1, 1, none⟩ (.int .i64 2)).setCell ⟨w.heap.size + 1 + 1, 2, none⟩ (.bool false)) (w.heap.size + 1 + 1) 50 #[.string TT, .int .i64 2, .bool false] := ((C3.set_ 0 (.string TT)).set_ 1 (.int .i64 2)).set_ 2 (.bool false)
  have KF : Kept w (((w5.setCell ⟨w.heap.size + 1 + 1, 0, none⟩ (.string TT)).setCell ⟨w.heap.size + 1 + 1, 1, none⟩ (.int .i64 2)).setCell ⟨w.heap.size + 1 + 1, 2, none⟩ (.bool false)) := by
    repeat refine Kept.setCell ?_ (by simp only; omega) _
    exact KX
  generalize ((w5.setCell ⟨w.heap.size + 1 + 1, 0, none⟩ (.string TT)).setCell ⟨w.heap.size + 1 + 1, 1, none⟩ (.int .i64 2)).setCell ⟨w.heap.size + 1 + 1, 2, none⟩ (.bool false) = WW at *
  have bw := BW.cell
  refine bodyPost_ret (v := .tuple #[.agg #[.string TT, .int .i64 2, .bool false], .int .i64 0]) (by simp [results, Tryz.results17, go_sem, bw]) rfl ⟨rfl, KF⟩
set_option maxRecDepth 100000 in
set_option maxHeartbeats 16000000 in
theorem rend_op24  (P0 : ByteArray) (c0 : Int) (b0 : Bool) (P1 : ByteArray) (c1 : Int) (b1 : Bool) (b off cap : Nat) (hb : b < w.heap.size)
     (x00 : w.cell? ⟨b, off, none⟩ = some (.string P0)) (x01 : w.cell? ⟨b, off + 1, none⟩ = some (.int .i64 c0)) (x02 : w.cell? ⟨b, off + 2, none⟩ = some (.bool b0)) (hp0 : P0.size ≤ 18014398509481984) (x10 : w.cell? ⟨b, off + 3, none⟩ = some (.string P1)) (x11 : w.cell? ⟨b, off + 4, none⟩ = some (.int .i64 c1)) (x12 : w.cell? ⟨b, off + 5, none⟩ = some (.bool b1)) (hp1 : P1.size ≤ 18014398509481984) :
    Calls Tryz.prog 17 #[.agg #[.int .i64 24, .int .i64 n], .slice (some ⟨b, off, none⟩) 2 cap, .agg #[.slice AE ne ce, .slice AT nt ct, .slice AI ni ci, .slice AD nd cd, .slice AM nmm cm]] w fun e w' => e = .returned (.tuple #[.agg #[.string (withS ⟨P0, c0, b0⟩ 1 ++ ⟨#[32]⟩ ++ (opSg 24).1 ++ ⟨#[32]⟩ ++ withS ⟨P1, c1, b1⟩ 2), .int .i64 1, .bool false], .int .i64 0]) ∧ Kept w w' := by
  have HWA := Lib.hid (fun w1 => pwithin_any ⟨P0, c0, b0⟩ 1 hp0 w1)
  have HWB := Lib.hid (fun w1 => pwithin_any ⟨P1, c1, b1⟩ 2 hp1 w1)
  have hwa := withS_size ⟨P0, c0, b0⟩ 1
  have hwb := withS_size ⟨P1, c1, b1⟩ 2
  unfold pcV at HWA HWB
  dsimp only at HWA HWB hwa hwb
  have HOS := Lib.hid (fun w1 => opSign_any 24 w1)
  have hss : (opSg 24).1.size ≤ 3 := by decide
  rw [show (opSg 24).2 = 1 from rfl] at HOS
  generalize withS ⟨P0, c0, b0⟩ 1 = TA at *
  generalize withS ⟨P1, c1, b1⟩ 2 = TB at *
  generalize (opSg 24).1 = SG at *
  have z0 : (TA : ByteArray).size = TA.size := by rfl
  have q0 : ¬ (9223372036854775807 < (TA : ByteArray).size + (⟨#[32]⟩ : ByteArray).size) := by rw [z0]; show ¬ (_ < TA.size + 1); omega
  have z1 : (TA ++ ⟨#[32]⟩ : ByteArray).size = TA.size + 1 := by rw [ByteArray.size_append, z0]; rfl
  have q1 : ¬ (9223372036854775807 < (TA ++ ⟨#[32]⟩ : ByteArray).size + (SG : ByteArray).size) := by rw [z1]; show ¬ (_ < TA.size + 1 + SG.size); omega
  have z2 : (TA ++ ⟨#[32]⟩ ++ SG : ByteArray).size = TA.size + 1 + SG.size := by rw [ByteArray.size_append, z1]
  have q2 : ¬ (9223372036854775807 < (TA ++ ⟨#[32]⟩ ++ SG : ByteArray).size + (⟨#[32]⟩ : ByteArray).size) := by rw [z2]; show ¬ (_ < TA.size + 1 + SG.size + 1); omega
  have z3 : (TA ++ ⟨#[32]⟩ ++ SG ++ ⟨#[32]⟩ : ByteArray).size = TA.size + 1 + SG.size + 1 := by rw [ByteArray.size_append, z2]; rfl
  have q3 : ¬ (9223372036854775807 < (TA ++ ⟨#[32]⟩ ++ SG ++ ⟨#[32]⟩ : ByteArray).size + (TB : ByteArray).size) := by rw [z3]; show ¬ (_ < TA.size + 1 + SG.size + 1 + TB.size); omega
  clear z3 z2 z1 z0
  have K0 := Lib.hid ((((Kept.refl w).alloc (.cells #[.int .i64 24, .int .i64 n] 41)).alloc (.cells #[.slice AE ne ce, .slice AT nt ct, .slice AI ni ci, .slice AD nd cd, .slice AM nmm cm] 26)).alloc (.cells #[.string ⟨#[]⟩, .int .i64 0, .bool false] 50))
  go_enter Tryz.func17, Tryz.ntmps17
  go_wp2_with (go_at_call 31; refine (HOS.out _).mono ?_; rintro e wq ⟨rfl, rfl⟩)
  obtain ⟨B1, B2, B3⟩ := (Kept.refl (((w.alloc (.cells #[.int .i64 24, .int .i64 n] 41)).alloc (.cells #[.slice AE ne ce, .slice AT nt ct, .slice AI ni ci, .slice AD nd cd, .slice AM nmm cm] 26)).alloc (.cells #[.string ⟨#[]⟩, .int .i64 0, .bool false] 50))).blk3
  have KK := K0.out
  generalize ((w.alloc (.cells #[.int .i64 24, .int .i64 n] 41)).alloc (.cells #[.slice AE ne ce, .slice AT nt ct, .slice AI ni ci, .slice AD nd cd, .slice AM nmm cm] 26)).alloc (.cells #[.string ⟨#[]⟩, .int .i64 0, .bool false] 50) = W at *
  have hbW := Nat.lt_of_lt_of_le hb KK.size
  have y00 := KW.cell hbW (KK.cell (p := ⟨b, _, none⟩) hb x00)
  have y01 := KW.cell hbW (KK.cell (p := ⟨b, _, none⟩) hb x01)
  have y02 := KW.cell hbW (KK.cell (p := ⟨b, _, none⟩) hb x02)
  have y10 := KW.cell hbW (KK.cell (p := ⟨b, _, none⟩) hb x10)
  have y11 := KW.cell hbW (KK.cell (p := ⟨b, _, none⟩) hb x11)
  have y12 := KW.cell hbW (KK.cell (p := ⟨b, _, none⟩) hb x12)
  refine wp_region_kept (by kernel_rfl) (by kernel_rfl) ?_
  repeat (go_big_quiet_step (first | (go_at_call 30; with_reducible exact KW.call (HWA.out _)) | (go_at_call 30; with_reducible exact KW.call (HWB.out _))))
  refine wpQuiet_nil ?_
  rintro w5 ⟨⟨wx, hx2⟩, hh⟩
  obtain rfl : w5 = wx := hh
  have C3 := B3.kept hx2
  have c3c := C3.cell
  have c3l := C3.lt
  have c3f := C3.frozen
  have KX := KK.trans hx2
  go_wp2_with fail
  generalize (TA ++ ⟨#[32]⟩ ++ SG ++ ⟨#[32]⟩ ++ TB : ByteArray) = TT at *
  have BW : Blk (((w5.setCell ⟨w.heap.size + 1 + 1, 0, none⟩ (.string TT)).setCell ⟨w.heap.size + 1 + 1, 1, none⟩ (.int .i64 1)).setCell ⟨w.heap.size + 1 + 1, 2, none⟩ (.bool false)) (w.heap.size + 1 + 1) 50 #[.string TT, .int .i64 1, .bool false] := ((C3.set_ 0 (.string TT)).set_ 1 (.int .i64 1)).set_ 2 (.bool false)
  have KF : Kept w (((w5.setCell ⟨w.heap.size + 1 + 1, 0, none⟩ (.string TT)).setCell ⟨w.heap.size + 1 + 1, 1, none⟩ (.int .i64 1)).setCell ⟨w.heap.size + 1 + 1, 2, none⟩ (.bool false)) := by
    repeat refine Kept.setCell ?_ (by simp only; omega) _
    exact KX
  generalize ((w5.setCell ⟨w.heap.size + 1 + 1, 0, none⟩ (.string TT)).setCell ⟨w.heap.size + 1 + 1, 1, none⟩ (.int .i64 1)).setCell ⟨w.heap.size + 1 + 1, 2, none⟩ (.bool false) = WW at *
  have bw := BW.cell
  refine bodyPost_ret (v := .tuple #[.agg #[.string TT, .int .i64 1, .bool false], .int .i64 0]) (by simp [results, Tryz.results17, go_sem, bw]) rfl ⟨rfl, KF⟩
end
end Go.Proofs.YtdnjfpmngnkcfaaGreatDoor
/- What render of package exprtext computes: the parts put together. -/
namespace Go.Proofs.YtdnjfpmngnkcfaaGreatDoor
open Go.RowKit

set_option maxRecDepth 100000 in
set_option maxHeartbeats 16000000 in
theorem rend_tab (n : Int) (AE AT AI AD AM : Option Addr) (ne ce nt ct ni ci nd cd nmm cm : Nat) (w : World) (o : Int) (ho : o = 33 ∨ o = 34) (P0 : ByteArray) (c0 : Int) (b0 : Bool) (b off cap : Nat) (hb : b < w.heap.size)
    (x00 : w.cell? ⟨b, off, none⟩ = some (.string P0)) (x01 : w.cell? ⟨b, off + 1, none⟩ = some (.int .i64 c0)) (x02 : w.cell? ⟨b, off + 2, none⟩ = some (.bool b0)) (P : ByteArray) (pc cc : Int) (pb : Bool)
    (H : ∀ w1, Kept w w1 → Calls Tryz.prog 26 #[.agg #[.int .i64 o, .int .i64 n], .agg #[.string P0, .int .i64 c0, .bool b0], .agg #[.slice AE ne ce, .slice AT nt ct, .slice AI ni ci, .slice AD nd cd, .slice AM nmm cm]] w1 fun e w' => e = .returned (.tuple #[.agg #[.string P, .int .i64 pc, .bool pb], .int .i64 cc]) ∧ Kept w1 w') :
    Calls Tryz.prog 17 #[.agg #[.int .i64 o, .int .i64 n], .slice (some ⟨b, off, none⟩) 1 cap, .agg #[.slice AE ne ce, .slice AT nt ct, .slice AI ni ci, .slice AD nd cd, .slice AM nmm cm]] w fun e w' => e = .returned (.tuple #[.agg #[.string P, .int .i64 pc, .bool pb], .int .i64 cc]) ∧ Kept w w' := by
  have HH := Lib.hid H
  clear H
  have K0 := Lib.hid ((((Kept.refl w).alloc (.cells #[.int .i64 o, .int .i64 n] 41)).alloc (.cells #[.slice AE ne ce, .slice AT nt ct, .slice AI ni ci, .slice AD nd cd, .slice AM nmm cm] 26)).alloc (.cells #[.string ⟨#[]⟩, .int .i64 0, .bool false] 50))
  rcases ho with rfl | rfl
  all_goals
    go_enter Tryz.func17, Tryz.ntmps17
    go_wp2_with fail
    obtain ⟨B1, B2, B3⟩ := (Kept.refl (((w.alloc (.cells #[.int .i64 _, .int .i64 n] 41)).alloc (.cells #[.slice AE ne ce, .slice AT nt ct, .slice AI ni ci, .slice AD nd cd, .slice AM nmm cm] 26)).alloc (.cells #[.string ⟨#[]⟩, .int .i64 0, .bool false] 50))).blk3
    have KK := K0.out
    generalize ((w.alloc (.cells #[.int .i64 _, .int .i64 n] 41)).alloc (.cells #[.slice AE ne ce, .slice AT nt ct, .slice AI ni ci, .slice AD nd cd, .slice AM nmm cm] 26)).alloc (.cells #[.string ⟨#[]⟩, .int .i64 0, .bool false] 50) = W at *
    have a0 := KW.cell B1.lt (B1.cell 0)
    have a1 := KW.cell B1.lt (B1.cell 1)
    have g0 := KW.cell B2.lt (B2.cell 0)
    have g1 := KW.cell B2.lt (B2.cell 1)
    have g2 := KW.cell B2.lt (B2.cell 2)
    have g3 := KW.cell B2.lt (B2.cell 3)
    have g4 := KW.cell B2.lt (B2.cell 4)
    have hbW := Nat.lt_of_lt_of_le hb KK.size
    have y0 := KW.cell hbW (KK.cell (p := ⟨b, _, none⟩) hb x00)
    have y1 := KW.cell hbW (KK.cell (p := ⟨b, _, none⟩) hb x01)
    have y2 := KW.cell hbW (KK.cell (p := ⟨b, _, none⟩) hb x02)
    refine wp_region_kept_tail 8 (by kernel_rfl) (by kernel_rfl) ?_
    simp only [List.take_succ_cons, List.take_zero, List.drop_succ_cons, List.drop_zero]
    repeat (go_big_quiet_step (first | (go_at_call 26; exact KW.call (HH.out _ (KK.trans (KW.h _))))))
    refine wpQuiet_nil ?_
    rintro w5 ⟨⟨wx, hx2⟩, hh⟩
    obtain rfl : w5 = wx := hh
    have C3 := B3.kept hx2
    have c3c := C3.cell
    have c3l := C3.lt
    have c3f := C3.frozen
    have KX := KK.trans hx2
    go_wp2_with fail
    have BW : Blk (((w5.setCell ⟨w.heap.size + 1 + 1, 0, none⟩ (.string P)).setCell ⟨w.heap.size + 1 + 1, 1, none⟩ (.int .i64 pc)).setCell ⟨w.heap.size + 1 + 1, 2, none⟩ (.bool pb)) (w.heap.size + 1 + 1) 50 #[.string P, .int .i64 pc, .bool pb] := ((C3.set_ 0 (.string P)).set_ 1 (.int .i64 pc)).set_ 2 (.bool pb)
    have KF : Kept w (((w5.setCell ⟨w.heap.size + 1 + 1, 0, none⟩ (.string P)).setCell ⟨w.heap.size + 1 + 1, 1, none⟩ (.int .i64 pc)).setCell ⟨w.heap.size + 1 + 1, 2, none⟩ (.bool pb)) := by
      repeat refine Kept.setCell ?_ (by simp only; omega) _
      exact KX
    generalize ((w5.setCell ⟨w.heap.size + 1 + 1, 0, none⟩ (.string P)).setCell ⟨w.heap.size + 1 + 1, 1, none⟩ (.int .i64 pc)).setCell ⟨w.heap.size + 1 + 1, 2, none⟩ (.bool pb) = WW at *
    have bw := BW.cell
    refine bodyPost_ret (v := .tuple #[.agg #[.string P, .int .i64 pc, .bool pb], .int .i64 cc]) (by simp [results, Tryz.results17, go_sem, bw]) rfl ⟨rfl, KF⟩
end Go.Proofs.YtdnjfpmngnkcfaaGreatDoor
/- What render of package exprtext computes. -/
namespace Go.Proofs.YtdnjfpmngnkcfaaGreatDoor
open Go.RowKit

theorem Names.form {w : World} {v : Value} {nm : Nm} (h : Names w v nm) : ∃ AE ne ce AT nt ct AI ni ci AD nd cd AM nmm cm, v = .agg #[.slice AE ne ce, .slice AT nt ct, .slice AI ni ci, .slice AD nd cd, .slice AM nmm cm] := by
  obtain ⟨ev, tv, iv, dv, mv, rfl, ⟨_, AE, ce, rfl, _⟩, ⟨AT, ct, rfl, _⟩, ⟨AI, ci, rfl, _⟩, ⟨AD, cd, rfl, _⟩, ⟨AM, cm, rfl, _⟩, _⟩ := h
  exact ⟨_, _, _, _, _, _, _, _, _, _, _, _, _, _, _, rfl⟩
theorem arS_zero {o : Int} (h : arS o = 0) : (o = 1 ∨ o = 2 ∨ o = 3 ∨ o = 4 ∨ o = 5) ∨ (o = 6 ∨ o = 7 ∨ o = 8 ∨ o = 36 ∨ o = 37 ∨ o = 38 ∨ o = 39) ∨ o = 9 ∨ o = 35 := by
  unfold arS at h
  split at h
  · omega
  · split at h
    · cases h
    · split at h
      · cases h
      · split at h <;> cases h
theorem arS_one {o : Int} (h : arS o = 1) : (o = 31 ∨ o = 32) ∨ (o = 33 ∨ o = 34) ∨ o = 25 ∨ o = 10 := by
  unfold arS at h
  split at h
  · cases h
  · split at h
    · omega
    · split at h
      · cases h
      · split at h <;> cases h
theorem arS_two {o : Int} (h : arS o = 2) : (o = 17 ∨ o = 18 ∨ o = 27 ∨ o = 28 ∨ o = 29 ∨ o = 30) ∨ (o = 14 ∨ o = 15 ∨ o = 16) ∨ o = 11 ∨ o = 12 ∨ o = 13 ∨ o = 19 ∨ o = 20 ∨ o = 21 ∨ o = 22 ∨ o = 23 ∨ o = 24 := by
  unfold arS at h
  split at h
  · cases h
  · split at h
    · cases h
    · split at h
      · cases h
      · split at h
        · omega
        · cases h
theorem arS_three {o : Int} (h : arS o = 3) : o = 26 := by
  unfold arS at h
  split at h
  · cases h
  · split at h
    · cases h
    · split at h
      · omega
      · split at h <;> cases h
set_option maxRecDepth 100000 in
set_option maxHeartbeats 4000000 in
theorem render_any (x : Nd) (a : List Pc) (av nv : Value) (nm : Nm) (w : World) (hA : Recs w pcF 3 av a) (hN : Names w nv nm) (har : arS x.o = a.length) (h0 : -9223372036854775808 ≤ x.n) (h1 : x.n ≤ 9223372036854775807)
    (hs : ∀ s ∈ refN nm x, s.size ≤ 140737488355328) (hp : ∀ p ∈ a, p.t.size ≤ 18014398509481984) (hM : Mon w) (hP : Pow w) :
    Calls Tryz.prog 17 #[ndV x, av, nv] w (rnPost (rend nm x a) w) := by
  obtain ⟨AE, ne, ce, AT, nt, ct, AI, ni, ci, AD, nd, cd, AM, nmm, cm, rfl⟩ := hN.form
  obtain ⟨A, cap, rfl, hx⟩ := hA
  obtain ⟨o, n⟩ := x
  dsimp only at har h0 h1
  match a, har, hx, hp with
  | [], har, hx, hp =>
    rcases arS_zero har with h | h | rfl | rfl
    · have e : rend nm ⟨o, n⟩ [] = litP ⟨o, n⟩ := by rcases h with rfl | rfl | rfl | rfl | rfl <;> rfl
      have HL := fun w1 (hk : Kept w w1) => renderLit_any ⟨o, n⟩ h0 h1 w1 (hM.kept hk) (hP.kept hk)
      rw [e]
      unfold rnPost pcV ndV at *
      exact rend_lit n AE AT AI AD AM ne ce nt ct ni ci nd cd nmm cm w o h _ _ _ _ A 0 cap HL
    · have e : rend nm ⟨o, n⟩ [] = namP nm ⟨o, n⟩ := by rcases h with rfl | rfl | rfl | rfl | rfl | rfl | rfl <;> rfl
      have HL := fun w1 (hk : Kept w w1) => renderName_any ⟨o, n⟩ _ nm (by show o = 6 ∨ o = 7 ∨ o = 8 ∨ (36 ≤ o ∧ o ≤ 39); omega) h0 h1 hs w1 (hN.kept hk)
      rw [e]
      unfold rnPost pcV ndV at *
      exact rend_nam n AE AT AI AD AM ne ce nt ct ni ci nd cd nmm cm w o h _ _ _ _ A 0 cap HL
    · exact rend_today n AE AT AI AD AM ne ce nt ct ni ci nd cd nmm cm w A 0 cap
    · exact rend_count n AE AT AI AD AM ne ce nt ct ni ci nd cd nmm cm w A 0 cap
  | [p], har, hx, hp =>
    obtain ⟨b, off, rfl, hb, hc⟩ := hx (by simp)
    have hp0 := hp p (by simp)
    obtain ⟨P0, c0, b0⟩ := p
    have x00 : w.cell? ⟨b, off, none⟩ = some (.string P0) := hc 0 _ rfl 0 _ rfl
    have x01 : w.cell? ⟨b, off + 1, none⟩ = some (.int .i64 c0) := hc 0 _ rfl 1 _ rfl
    have x02 : w.cell? ⟨b, off + 2, none⟩ = some (.bool b0) := hc 0 _ rfl 2 _ rfl
    rcases arS_one har with h | h | rfl | rfl
    · have e : rend nm ⟨o, n⟩ [⟨P0, c0, b0⟩] = (atomP (callW o ++ ⟨#[40]⟩ ++ P0 ++ ⟨#[41]⟩), 0) := by rcases h with rfl | rfl <;> rfl
      rw [e]
      exact rend_arg1 n AE AT AI AD AM ne ce nt ct ni ci nd cd nmm cm w o h P0 b off cap hb x00 hp0
    · have e : rend nm ⟨o, n⟩ [⟨P0, c0, b0⟩] = tabP nm ⟨o, n⟩ P0 := by rcases h with rfl | rfl <;> rfl
      have HL := fun w1 (hk : Kept w w1) => renderTable_any ⟨o, n⟩ ⟨P0, c0, b0⟩ _ nm h h0 h1 hs hp0 w1 (hN.kept hk)
      rw [e]
      unfold rnPost pcV ndV at *
      exact rend_tab n AE AT AI AD AM ne ce nt ct ni ci nd cd nmm cm w o h P0 c0 b0 b off cap hb x00 x01 x02 _ _ _ _ HL
    · exact rend_not n AE AT AI AD AM ne ce nt ct ni ci nd cd nmm cm w P0 c0 b0 b off cap hb x00 x01 x02 hp0
    · exact rend_neg n AE AT AI AD AM ne ce nt ct ni ci nd cd nmm cm w P0 c0 b0 b off cap hb x00 x01 x02 hp0
  | [p, q], har, hx, hp =>
    obtain ⟨b, off, rfl, hb, hc⟩ := hx (by simp)
    have hp0 := hp p (by simp)
    have hp1 := hp q (by simp)
    obtain ⟨P0, c0, b0⟩ := p
    obtain ⟨P1, c1, b1⟩ := q
    have x00 : w.cell? ⟨b, off, none⟩ = some (.string P0) := hc 0 _ rfl 0 _ rfl
    have x01 : w.cell? ⟨b, off + 1, none⟩ = some (.int .i64 c0) := hc 0 _ rfl 1 _ rfl
    have x02 : w.cell? ⟨b, off + 2, none⟩ = some (.bool b0) := hc 0 _ rfl 2 _ rfl
    have x10 : w.cell? ⟨b, off + 3, none⟩ = some (.string P1) := hc 1 _ rfl 0 _ rfl
    have x11 : w.cell? ⟨b, off + 4, none⟩ = some (.int .i64 c1) := hc 1 _ rfl 1 _ rfl
    have x12 : w.cell? ⟨b, off + 5, none⟩ = some (.bool b1) := hc 1 _ rfl 2 _ rfl
    rcases arS_two har with h | h | rfl | rfl | rfl | rfl | rfl | rfl | rfl | rfl | rfl
    · have e : rend nm ⟨o, n⟩ [⟨P0, c0, b0⟩, ⟨P1, c1, b1⟩] = (atomP (callW o ++ ⟨#[40]⟩ ++ P0 ++ ⟨#[44, 32]⟩ ++ P1 ++ ⟨#[41]⟩), 0) := by rcases h with rfl | rfl | rfl | rfl | rfl | rfl <;> rfl
      rw [e]
      exact rend_arg2 n AE AT AI AD AM ne ce nt ct ni ci nd cd nmm cm w o h P0 P1 b off cap hb x00 hp0 x10 hp1
    · have e : rend nm ⟨o, n⟩ [⟨P0, c0, b0⟩, ⟨P1, c1, b1⟩] = if modeW n = ⟨#[]⟩ then (pc0, 3) else (atomP (callW o ++ ⟨#[40]⟩ ++ P0 ++ ⟨#[44, 32]⟩ ++ P1 ++ ⟨#[44, 32]⟩ ++ modeW n ++ ⟨#[41]⟩), 0) := by rcases h with rfl | rfl | rfl <;> rfl
      rw [e]
      by_cases hm : modeW n = ⟨#[]⟩
      · rw [if_pos hm]
        exact rend_arg2x n AE AT AI AD AM ne ce nt ct ni ci nd cd nmm cm w o h _ 2 cap hm
      · rw [if_neg hm]
        exact rend_arg2m n AE AT AI AD AM ne ce nt ct ni ci nd cd nmm cm w o h P0 P1 b off cap hb x00 hp0 x10 hp1 hm
    · exact rend_op11 n AE AT AI AD AM ne ce nt ct ni ci nd cd nmm cm w P0 c0 b0 P1 c1 b1 b off cap hb x00 x01 x02 hp0 x10 x11 x12 hp1
    · exact rend_op12 n AE AT AI AD AM ne ce nt ct ni ci nd cd nmm cm w P0 c0 b0 P1 c1 b1 b off cap hb x00 x01 x02 hp0 x10 x11 x12 hp1
    · exact rend_op13 n AE AT AI AD AM ne ce nt ct ni ci nd cd nmm cm w P0 c0 b0 P1 c1 b1 b off cap hb x00 x01 x02 hp0 x10 x11 x12 hp1
    · exact rend_op19 n AE AT AI AD AM ne ce nt ct ni ci nd cd nmm cm w P0 c0 b0 P1 c1 b1 b off cap hb x00 x01 x02 hp0 x10 x11 x12 hp1
    · exact rend_op20 n AE AT AI AD AM ne ce nt ct ni ci nd cd nmm cm w P0 c0 b0 P1 c1 b1 b off cap hb x00 x01 x02 hp0 x10 x11 x12 hp1
    · exact rend_op21 n AE AT AI AD AM ne ce nt ct ni ci nd cd nmm cm w P0 c0 b0 P1 c1 b1 b off cap hb x00 x01 x02 hp0 x10 x11 x12 hp1
    · exact rend_op22 n AE AT AI AD AM ne ce nt ct ni ci nd cd nmm cm w P0 c0 b0 P1 c1 b1 b off cap hb x00 x01 x02 hp0 x10 x11 x12 hp1
    · exact rend_op23 n AE AT AI AD AM ne ce nt ct ni ci nd cd nmm cm w P0 c0 b0 P1 c1 b1 b off cap hb x00 x01 x02 hp0 x10 x11 x12 hp1
    · exact rend_op24 n AE AT AI AD AM ne ce nt ct ni ci nd cd nmm cm w P0 c0 b0 P1 c1 b1 b off cap hb x00 x01 x02 hp0 x10 x11 x12 hp1
  | [p, q, r], har, hx, hp =>
    obtain ⟨b, off, rfl, hb, hc⟩ := hx (by simp)
    have hp0 := hp p (by simp)
    have hp1 := hp q (by simp)
    have hp2 := hp r (by simp)
    obtain ⟨P0, c0, b0⟩ := p
    obtain ⟨P1, c1, b1⟩ := q
    obtain ⟨P2, c2, b2⟩ := r
    obtain rfl := arS_three har
    exact rend_if n AE AT AI AD AM ne ce nt ct ni ci nd cd nmm cm w P0 P1 P2 b off cap hb (hc 0 _ rfl 0 _ rfl) hp0 (hc 1 _ rfl 0 _ rfl) hp1 (hc 2 _ rfl 0 _ rfl) hp2
  | _ :: _ :: _ :: _ :: _, har, _, _ =>
    have := (arS_bd o).2
    rw [har] at this
    simp only [List.length_cons] at this
    omega
end Go.Proofs.YtdnjfpmngnkcfaaGreatDoor
